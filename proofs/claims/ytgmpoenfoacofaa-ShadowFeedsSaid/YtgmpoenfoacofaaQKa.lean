/-
  Values,memory and effects on pure data. Generic: over any program.
-/
import Derived.Test.YtgmpoenfoacofaaQGlb
namespace Go.Proofs.Ytgmpoenfoacofaa
open Go.RowKit
set_option linter.unusedVariables false
set_option linter.unusedSimpArgs false
def jP:Option Nat→Fence
 | none=>Fence.wide
 | some l=>Fence.wide.inRound l
theorem mf (rd:Option Nat) (f:FuncId):(jP rd).fn f:=by cases rd<;>trivial
theorem tr (rd:Option Nat):(jP rd).depth=none:=by cases rd<;>rfl
theorem xS (P:Program) (rd:Option Nat):Machine.fenced P (jP rd)=Machine.fenced P Fence.wide:=by cases rd<;>rfl
theorem wj {rd:Option Nat} {n:Nat} {P:Program} {f:FuncId} {args:Array Value} {w:World} {R:Ending→World→Prop} (h:Calls P f args w R):CallsIn (jP rd) n P f args w R:=by
 have h':CallsIn Fence.wide n P f args w R:=callsIn_wide.2 h
 cases rd with
 | none=>exact h'
 | some l=>exact h'.inRound l
theorem xT {rd:Option Nat} {n:Nat} {P:Program} {row:String} {args:Array Value} {w:World} {R:Value→World→Prop} (h:Rows P row args w R):RowsIn (jP rd) n P row args w R :=
 fun c cs _=>let ⟨v,w',r,s⟩:=h c cs;⟨v,w',r,by rw[xS];exact stepsIn_wide.2 s⟩
theorem gV {rd:Option Nat} {P:Program} {o:Oper} {a:Act} {K:Act→World→Prop} {Q:Exit→Act→World→Prop} {r:Result Next} (h:o.upon P a K Q r):o.uponIn (jP rd) 0 P a K Q r:=by
 have hd:(jP rd).depth.isSome=true→1≤0:=fun h=>by rw[tr]at h;cases h
 cases r with
 | ok x w' =>
  cases x<;>simp only[Oper.upon]at h<;>simp only[Oper.uponIn]<;>first
   | exact h
   | exact⟨hd,wj h⟩
   | exact⟨hd,xT h⟩
   | exact h.elim
 | halt x w'=>cases x<;>simp only[Oper.upon]at h<;>simp only[Oper.uponIn]<;>exact h
def cg (o:Oper):Bool :=
 match o.op with
 | .defer _=>true
 | _=>false
def zl (ops:Array Oper):Prop:=∀(i:Nat) (o:Oper),ops[i]?=some o→cg o=false
theorem A3 {o:Oper} (h:cg o=false) (rd:Option Nat) (ρ:Operand→Value):o.semAt rd ρ=execOp ρ o:=by
 cases rd with
 | none=>exact Oper.semAt_none ..
 | some l =>
  refine Oper.semAt_some l ρ o (fun c hc=>?_)
  unfold cg at h
  rw[hc]at h
  cases h
theorem qk {rd:Option Nat} {P:Program} {o:Oper} {a:Act} {w:World} {K:Act→World→Prop} {Q:Exit→Act→World→Prop} (hd:cg o=false) (h:o.uponIn (jP rd) 0 P a K Q ((execOp a.eval o).run P w)):o.wpIn (jP rd) 0 P a w K Q :=
 ⟨fun f _=>mf rd f,by rw[A3 hd];exact h⟩
theorem Hw {rd:Option Nat} {P:Program} {ops:Array Oper} {i:Nat} {o:Oper} {a:Act} {w:World} {K:Act→World→Prop} {Q:Exit→Act→World→Prop} (hnd:zl ops) (ho:ops[i]?=some o) (h:o.uponIn (jP rd) 0 P a K Q ((execOp a.eval o).run P w)):o.wpIn (jP rd) 0 P a w K Q :=
 qk (hnd i o ho) h
theorem lK.uponIn {rd:Option Nat} {P:Program} {R:Value→World→Prop} {o:Oper} {a:Act} {next:Act→World→Prop} {Q:Exit→Act→World→Prop} {r:Result Next}
  (h:lK P R r) (hn:∀v w',R v w'→next (a.put o.dst v) w'):o.uponIn (jP rd) 0 P a next Q r:=gV (h.upon hn)
section
variable {P:Program} {ops:Array Oper} {sp:py} {base:Act} {w0:World} {rd:Option Nat}
theorem uR {Q:Exit→Act→World→Prop} (OD:EM ops sp base) {m0:Nat} (OY:zi ops m0=true):∀(fuel m:Nat) (C':Array Bool) (a:Act) (w:World),m0≤m→m+fuel=ops.size→C'.size=ops.size →
  (∀i,i<m→C'.getD i false=true)→(∀i,m≤i→C'.getD i false=false) →
  wpOpsIn (jP rd) 0 P ops Q (List.range' m fuel) a w→wpAnyIn (jP rd) 0 P .any ops Q fuel C' a w:=by
 obtain⟨_,ht⟩:=md OY
 intro fuel
 induction fuel with
 | zero =>
  intro m C' a w hm Qn hs hall N1 h
  refine⟨LX.2 (fun i hi=>?_),by simpa[wpOpsIn]using h⟩
  obtain⟨h1,o,ho,_⟩:=(bB C' hs i).1 hi
  have:=(KQ.1 ho).1
  rw[hall i (by omega)]at h1
  cases h1
 | succ fuel ih =>
  intro m C' a w hm Qn hs hall N1 h
  have hmlt:m<ops.size:=by omega
  have ho:ops[m]?=some ops[m]:=K0 hmlt
  have hrm:m∈Region.ready .any ops C':=(bB C' hs m).2 ⟨N1 m (KI _),_,ho,fun e he hb=>hall _ (by have:=OD.top m _ ho e he hb;omega)⟩
  refine⟨fun Pq=>(by rw[Pq]at hrm;cases hrm),fun i hi=>?_⟩
  obtain⟨NC,o,hio,hr⟩:=(bB C' hs i).1 hi
  have QH:i=m:=by
   have hilt:=(KQ.1 hio).1
   have h1:m≤i:=by
    refine LH fun hn=>?_
    rw[hall i (by omega)]at NC
    cases NC
   refine LH fun hn=>?_
   have hb:=ht i (by omega) hilt m (by omega)
   have:=eW (C':=C') (fun k ok hk Ri e he hbe=>by
    have hkm:k<m:=by
     refine LH fun hn=>?_
     rw[N1 k (by omega)]at hk
     cases hk
    have:=OD.top k ok Ri e he hbe
    exact hall _ (by omega)) 12 i m (fun o' NT=>by rw[hio]at NT;cases NT;exact hr) hb
   rw[N1 m (KI _)]at this
   cases this
  subst QH
  rw[List.range'_succ,wpOpsIn_cons]at h
  refine wpOpIn_mono (fun a w h=>?_) h
  have QG:i<C'.size:=by omega
  refine ih (i+1) _ a w (by omega) (by omega) (by simpa using hs) (fun k hk=>?_) (fun k hk=>?_) h
  ·rw[aL _ _ _ QG]
   split
   ·rfl
   ·exact hall k (by omega)
  ·rw[aL _ _ _ QG,KK (by omega)]
   exact N1 k (by omega)
end
inductive V:Type 1
 | int (k:IntKind) (n:Int)
 | bool (b:Bool)
 | str (s:ByteArray)
 | sl (sz:Nat) {α:Type} (enc:α→List V) (d:α) (l:List α)
 | mp (es:List (Int×Value))
 | nilf
 | nsl
 | esl
 | sm (ag:Bool) {α:Type} (enc:α→List V) (d:α) (l:List (ByteArray×α))
 | nmp
 | fnv (f:FuncId)
def zm (ag:Bool) (n:Nat) (v:Value) (f:Nat→Value):Prop:=if ag=true then ∃us:Array Value,v=.agg us∧us.size=n∧∀j,j<n→us[j]?=some (f j)else n=1∧v=f 0
inductive ci (S:Nat→Prop) (w:World):V→Value→Prop
 | int (k:IntKind) (n:Int):ci S w (.int k n) (.int k n)
 | bool (b:Bool):ci S w (.bool b) (.bool b)
 | str (s:ByteArray):ci S w (.str s) (.string s)
 | nil (sz:Nat) {α:Type} (enc:α→List V) (d:α) (p:Option Addr) (c:Nat):c≤maxLen→(p=none→c=0)→ci S w (.sl sz enc d []) (.slice p 0 c)
 | row (sz:Nat) {α:Type} (enc:α→List V) (d:α) (l:List α) (b L' c n:Nat) (us:Nat→Nat→Value):S b→b<w.heap.size→n=l.length→n≤c→c≤maxLen →
   (∀(i:Nat) (x:α),l[i]?=some x→(enc x).length=sz) →
   (∀(i:Nat) (x:α) (j:Nat) (y:V),l[i]?=some x→(enc x)[j]?=some y→w.cell? ⟨b,L'+(i*sz+j),none⟩=some (us i j)) →
   (∀(i:Nat) (x:α) (j:Nat) (y:V),l[i]?=some x→(enc x)[j]?=some y→ci S w y (us i j))→ci S w (.sl sz enc d l) (.slice (some ⟨b,L',none⟩) n c)
 | mp (es:List (Int×Value)) (b clock:Nat) (arr:Array MapEntry):S b→b<w.heap.size→w.heap[b]?=some (.map arr clock)→arr.toList.map (fun e=>(e.key,e.val))=es.map (fun e=>(Value.int .i64 e.1,e.2))→ci S w (.mp es) (.map (some b))
 | nilf:ci S w .nilf .nilFunc
 | nsl:ci S w .nsl (.slice none 0 0)
 | esl (p:Addr) (c:Nat):c≤maxLen→ci S w .esl (.slice (some p) 0 c)
 | smn (ag:Bool) {α:Type} (enc:α→List V) (d:α):ci S w (.sm ag enc d []) (.map none)
 | sm (ag:Bool) {α:Type} (enc:α→List V) (d:α) (l:List (ByteArray×α)) (b clock:Nat) (arr:Array MapEntry) (us:Nat→Nat→Value):S b→b<w.heap.size→w.heap[b]?=some (.map arr clock)→arr.size=l.length →
   (∀(i:Nat) (k:ByteArray) (x:α),l[i]?=some (k,x)→∃e,arr[i]?=some e∧e.key=.string k∧zm ag (enc x).length e.val (us i)) →
   (∀(i:Nat) (k:ByteArray) (x:α) (j:Nat) (y:V),l[i]?=some (k,x)→(enc x)[j]?=some y→ci S w y (us i j))→ci S w (.sm ag enc d l) (.map (some b))
 | nmp:ci S w .nmp (.map none)
 | fnv (f:FuncId):ci S w (.fnv f) (.func (.func f) #[] #[])
theorem ci.stable {S S':Nat→Prop} {w w':World} {x:V} {u:Value} (h:ci S w x u) (hS:∀b,S b→b<w.heap.size→S' b)
  (hw:∀b,S b→b<w.heap.size→w'.heap[b]?=w.heap[b]?) (M0:w.heap.size≤w'.heap.size):ci S' w' x u:=by
 induction h with
 | int k n=>exact .int k n
 | bool b=>exact .bool b
 | str s=>exact .str s
 | nil sz enc d p c h1 h2=>exact .nil sz enc d p c h1 h2
 | row sz enc d l b L' c n us h1 h2 h3 h4 h5 h6 h7 _ ih =>
  exact .row sz enc d l b L' c n us (hS b h1 h2) (by omega) h3 h4 h5 h6 (fun i x j y hx hy=>by rw[← h7 i x j y hx hy];exact MD (hw b h1 h2)) ih
 | nilf=>exact .nilf
 | nsl=>exact .nsl
 | esl p c h=>exact .esl p c h
 | mp es b clock arr h1 h2 h3 h4=>exact .mp es b clock arr (hS b h1 h2) (by omega) (by rw[hw b h1 h2];exact h3) h4
 | smn ag enc d=>exact .smn ag enc d
 | sm ag enc d l b clock arr us h1 h2 h3 h4 h5 _ ih=>exact .sm ag enc d l b clock arr us (hS b h1 h2) (by omega) (by rw[hw b h1 h2];exact h3) h4 h5 ih
 | nmp=>exact .nmp
 | fnv f=>exact .fnv f
theorem ci.one {S:Nat→Prop} {w:World} {x:V} {u:Value} (h:ci S w x u):u.oneCell'=true:=by
 cases h<;>rfl
inductive D:Type 1
 | v (x:V)
 | nils
 | own (id:Nat)
 | ptr (id i sz L':Nat)
 | iptr (cs:List V) (L':Nat)
 | agg (cs:List D)
 | tup (cs:List D)
 | fn (f:Fn) (first cap:List D)
 | yld (id:Nat)
 | capd (x:V)
 | gr (g r:Nat)
 | pre (id sz:Nat) (sh:Bool) {α:Type} (enc:α→List V) (d:α) (l:List α)
 | junk
mutual
def D.free (id:Nat):D→Bool
 | .own i=>!(Nat.beq i id)
 | .ptr i _ _ _=>!(Nat.beq i id)
 | .agg cs=>D.freeL id cs
 | .tup cs=>D.freeL id cs
 | .fn _ a b=>D.freeL id a&&D.freeL id b
 | .yld i=>!(Nat.beq i id)
 | .gr i _=>!(Nat.beq i id)
 | .pre i _ _ _ _ _=>!(Nat.beq i id)
 | _=>true
def D.freeL (id:Nat):List D→Bool
 | []=>true
 | c::cs=>D.free id c&&D.freeL id cs
end
def aA:Value→Option Nat
 | .pointer (some a)=>some a.block
 | .slice (some a) _ _=>some a.block
 | .map (some b)=>some b
 | _=>none
def bi (u:Value) (b:Nat):Prop:=aA u=some b∨∃us:Array Value,u=.tuple us∧∃(k:Nat) (x:Value),us[k]?=some x∧aA x=some b
theorem bi.one {u:Value} {b k:Nat} (hk:bi u k) (h:aA u=some b):some b=some k:=by
 rcases hk with hk | ⟨us,rfl,_⟩
 ·rw[← h,← hk]
 ·cases h
theorem bi.bl {u:Value} {b:Nat} (hk:bi u b) (h:u.oneCell'=true):aA u=some b:=by
 rcases hk with hk | ⟨us,rfl,_⟩
 ·exact hk
 ·cases h
theorem bi.of {u:Value} {b:Nat} (h:aA u=some b):bi u b:=.inl h
inductive ah (S:Nat→Prop) (μ:Nat→Value) (w:World):D→Value→Prop
 | v (x:V) (u:Value):ci S w x u→ah S μ w (.v x) u
 | nils:ah S μ w .nils (.slice none 0 0)
 | own (id:Nat):ah S μ w (.own id) (μ id)
 | ptr (id i sz L' b:Nat):aA (μ id)=some b→ah S μ w (.ptr id i sz L') (.pointer (some ⟨b,i*sz+L',none⟩))
 | iptr (cs:List V) (L' b o:Nat) (us:Nat→Value):S b→b<w.heap.size→(∀(j:Nat) (y:V),cs[j]?=some y→w.cell? ⟨b,o+j,none⟩=some (us j)) →
   (∀(j:Nat) (y:V),cs[j]?=some y→ci S w y (us j))→ah S μ w (.iptr cs L') (.pointer (some ⟨b,o+L',none⟩))
 | agg (cs:List D) (us:Array Value):us.size=cs.length→(∀(j:Nat) (y:D) (u:Value),cs[j]?=some y→us[j]?=some u→ah S μ w y u)→ah S μ w (.agg cs) (.agg us)
 | tup (cs:List D) (us:Array Value):us.size=cs.length→(∀(j:Nat) (y:D) (u:Value),cs[j]?=some y→us[j]?=some u→ah S μ w y u)→ah S μ w (.tup cs) (.tuple us)
 | fn (f:Fn) (first cap:List D) (us vs:Array Value):us.size=first.length→(∀(j:Nat) (y:D) (u:Value),first[j]?=some y→us[j]?=some u→ah S μ w y u) →
   vs.size=cap.length→(∀(j:Nat) (y:D) (u:Value),cap[j]?=some y→vs[j]?=some u→ah S μ w y u)→ah S μ w (.fn f first cap) (.func f us vs)
 | yld (id l:Nat):aA (μ id)=some l→ah S μ w (.yld id) (.func (.yield l) #[] #[])
 | capd (x:V) (p:Option Addr) (n:Nat):ci S w x (.slice p n n)→ah S μ w (.capd x) (.slice p n n)
 | gr (g r:Nat) (us:Array Value) (u:Value):μ g=.tuple us→us[r]?=some u→u.oneCell'=true→ah S μ w (.gr g r) u
 | preA (id sz:Nat) (sh:Bool) {α:Type} (enc:α→List V) (d:α) (l:List α) (g n c:Nat):sh=true→aA (μ id)=some g→n=l.length→n≤c→c≤maxLen→ah S μ w (.pre id sz sh enc d l) (.slice (some ⟨g,0,none⟩) n c)
 | preB (id sz:Nat) (sh:Bool) {α:Type} (enc:α→List V) (d:α) (l:List α) (u:Value):ci S w (.sl sz enc d l) u→ah S μ w (.pre id sz sh enc d l) u
 | junk (u:Value):ah S μ w .junk u
theorem D.freeL_get {id:Nat}:∀{cs:List D} {j:Nat} {y:D},D.freeL id cs=true→cs[j]?=some y→D.free id y=true
 | [],_,_,_,h=>by simp at h
 | c::cs,0,y,h,hy=>by
  simp only[D.freeL,KD]at h
  simp at hy
  subst hy
  exact h.1
 | c::cs,j+1,y,h,hy=>by
  simp only[D.freeL,KD]at h
  exact D.freeL_get h.2 (by simpa using hy)
theorem ah.stable {S S':Nat→Prop} {μ μ':Nat→Value} {w w':World} {d:D} {u:Value} (h:ah S μ w d u) (hS:∀b,S b→b<w.heap.size→S' b)
  (hw:∀b,S b→b<w.heap.size→w'.heap[b]?=w.heap[b]?) (M0:w.heap.size≤w'.heap.size) (hμ:∀id,d.free id=false→μ' id=μ id):ah S' μ' w' d u:=by
 induction h with
 | v x u h=>exact .v x u (h.stable hS hw M0)
 | nils=>exact .nils
 | own id=>rw[← hμ id (by simp[D.free])];exact .own id
 | ptr id i sz L' b h=>exact .ptr id i sz L' b (by rw[hμ id (by simp[D.free])];exact h)
 | yld id l h=>exact .yld id l (by rw[hμ id (by simp[D.free])];exact h)
 | iptr cs L' b o us h1 h2 h3 h4=>exact .iptr cs L' b o us (hS b h1 h2) (by omega) (fun j y hy=>by rw[← h3 j y hy];exact MD (hw b h1 h2)) (fun j y hy=>(h4 j y hy).stable hS hw M0)
 | agg cs us h1 _ ih =>
  refine .agg cs us h1 (fun j y u hy hu=>ih j y u hy hu (fun id hf=>hμ id ?_))
  simp only[D.free]
  cases hc:D.freeL id cs
  ·rfl
  ·rw[D.freeL_get hc hy]at hf;cases hf
 | tup cs us h1 _ ih =>
  refine .tup cs us h1 (fun j y u hy hu=>ih j y u hy hu (fun id hf=>hμ id ?_))
  simp only[D.free]
  cases hc:D.freeL id cs
  ·rfl
  ·rw[D.freeL_get hc hy]at hf;cases hf
 | fn f a b us vs h1 _ h2 _ ih1 ih2 =>
  refine .fn f a b us vs h1 (fun j y u hy hu=>ih1 j y u hy hu (fun id hf=>hμ id ?_)) h2 (fun j y u hy hu=>ih2 j y u hy hu (fun id hf=>hμ id ?_))
  ·simp only[D.free]
   cases hc:D.freeL id a
   ·rfl
   ·rw[D.freeL_get hc hy]at hf;cases hf
  ·simp only[D.free]
   cases hc:D.freeL id b
   ·simp
   ·rw[D.freeL_get hc hy]at hf;cases hf
 | capd x p n h=>exact .capd x p n (h.stable hS hw M0)
 | gr g r us u h h1 h2=>exact .gr g r us u (by rw[hμ g (by simp[D.free])];exact h) h1 h2
 | preA id sz sh enc d l g n c h0 h1 h2 h3 h4=>exact .preA id sz sh enc d l g n c h0 (by rw[hμ id (by simp[D.free])];exact h1) h2 h3 h4
 | preB id sz sh enc d l u h=>exact .preB id sz sh enc d l u (h.stable hS hw M0)
 | junk u=>exact .junk u
def D.one:D→Bool
 | .agg _=>false
 | .tup _=>false
 | .junk=>false
 | .own _=>true
 | _=>true
structure xL:Type 1 where
 E:TypeId
 sz:Nat
 α:Type
 enc:α→List V
 d:α
 l:List α
inductive Ce:Type 1
 | v (x:V)
 | me (r:Nat)
inductive am:Type 1
 | dead
 | var (T:TypeId) (cs:List D)
 | arr (E:TypeId) (sz:Nat) {α:Type} (enc:α→List V) (d:α) (l:List α)
 | loop (l:Nat) (tm:Array Value) (nt:Nat) (env:List (Nat×D)) (ps:List Nat) (assign body:Code) (state:LoopState) (pending:Option Code)
 | frame (tm:Array Value) (env:List (Nat×D))
 | ro (E:TypeId) (sz:Nat) {α:Type} (enc:α→List V) (d:α) (l:List α)
 | mpb (t:TypeId) (ag:Bool) {α:Type} (enc:α→List V) (d:α) (l:List (ByteArray×α))
 | arrD (E:TypeId) (sz n:Nat) (gs:List Nat) (cell:Nat→Nat→D)
 | grp (n:Nat) (f:Nat→xL)
 | nest (E:TypeId) (sz n:Nat) (ce:Nat→Nat→Ce) (m:Nat) (f:Nat→xL)
def bj (id:Nat):List (Nat×D)→Bool
 | []=>true
 | (_,d)::r=>D.free id d&&bj id r
theorem cE {id:Nat}:∀{env:List (Nat×D)} {t:Nat} {d:D},bj id env=true→(t,d)∈env→D.free id d=true
 | (s,e)::r,t,d,h,hm=>by
  simp only[bj,KD]at h
  rcases Lv.1 hm with hm | hm
  ·cases hm;exact h.1
  ·exact cE h.2 hm
def iX (ag:Bool) (cs:List V):D:=if ag then .agg (cs.map D.v)else (cs.map D.v).getD 0 .junk
theorem ts (ag:Bool) (cs:List V) (id:Nat):D.free id (iX ag cs)=true:=by
 have hL:∀cs:List V,D.freeL id (cs.map D.v)=true:=by
  intro cs
  induction cs with
  | nil=>rfl
  | cons c r ih=>rw[LD,D.freeL,ih];rfl
 unfold iX
 split
 ·rw[D.free];exact hL cs
 ·cases cs<;>rfl
def zo (S:Nat→Prop) (μ:Nat→Value) (w:World) (ag:Bool) {α:Type} (enc:α→List V) (l:List (ByteArray×α)) (arr:Array MapEntry):Prop :=
 arr.size=l.length∧∀(i:Nat) (k:ByteArray) (x:α),l[i]?=some (k,x)→∃e,arr[i]?=some e∧e.key=.string k∧(ag=false→(enc x).length=1)∧ah S μ w (iX ag (enc x)) e.val
def oC (S:Nat→Prop) (w:World) (u:Value) (x:xL):Prop:=(∀(i:Nat) (y:x.α),x.l[i]?=some y→(x.enc y).length=x.sz)∧∃xs,w.ownsRow 0 x.E x.sz u x.l.length xs∧∀(i:Nat) (z:x.α) (j:Nat) (y:V),x.l[i]?=some z→(x.enc z)[j]?=some y→∃v,xs[i*x.sz+j]?=some v∧ci S w y v
def Hx (S:Nat→Prop) (w:World) (us:Array Value):Ce→Value→Prop
 | .v x,z=>ci S w x z
 | .me r,z=>us[r+1]?=some z
def az (S:Nat→Prop) (μ:Nat→Value) (w:World) (u:Value):am→Prop
 | .dead=>True
 | .var T cs=>∃b vs,u=.pointer (some ⟨b,0,none⟩)∧w.heap[b]?=some (.cells vs T (0,0))∧vs.size=cs.length∧∀(j:Nat) (y:D) (x:Value),cs[j]?=some y→vs[j]?=some x→ah S μ w y x
 | .arr (α:=α) E sz enc _ l=>(∀(i:Nat) (x:α),l[i]?=some x→(enc x).length=sz)∧∃xs,w.ownsRow 0 E sz u l.length xs∧∀(i:Nat) (x:α) (j:Nat) (y:V),l[i]?=some x→(enc x)[j]?=some y→∃z,xs[i*sz+j]?=some z∧ci S w y z
 | .loop l tm nt env ps assign body state pending=>∃(r:Loop),u=.pointer (some ⟨l,0,none⟩)∧w.heap[l]?=some (.loop r)∧r.state=state∧r.pending=pending∧r.params=ps.toArray∧r.assign=assign∧r.body=body∧r.tmps=tm∧tm.size=nt ∧
   ∀(t:Nat) (d:D),(t,d)∈env→t<nt∧ah S μ w d (tm.getD t undef)
 | .frame tm env=>u=.bool true∧∀(t:Nat) (d:D),(t,d)∈env→t<tm.size∧ah S μ w d (tm.getD t undef)
 | .ro (α:=α) E sz enc _ l=>(∀(i:Nat) (x:α),l[i]?=some x→(enc x).length=sz)∧∃xs,w.ownsRow 0 E sz u l.length xs∧∀(i:Nat) (x:α) (j:Nat) (y:V),l[i]?=some x→(enc x)[j]?=some y→∃z,xs[i*sz+j]?=some z∧ci S w y z
 | .mpb t ag enc _ l=>∃b arr clock,u=.map (some b)∧w.heap[b]?=some (.map arr clock)∧zo S μ w ag enc l arr
 | .arrD E sz n gs cell=>(∀(i j id:Nat),i<n→j<sz→gs.all (fun g=>!(Nat.beq g id))=true→(cell i j).free id=true)∧∃xs,w.ownsRow 0 E sz u n xs∧∀(i j:Nat),i<n→j<sz→∃z,xs[i*sz+j]?=some z∧z.oneCell'=true∧ah S μ w (cell i j) z
 | .grp n f=>∃us:Array Value,u=.tuple us∧us.size=n∧(∀(r:Nat) (v:Value),us[r]?=some v→v.oneCell'=true∧oC S w v (f r))∧∀(r r':Nat) (v v':Value) (b:Nat),us[r]?=some v→us[r']?=some v'→aA v=some b→aA v'=some b→r=r'
 | .nest E sz n ce m f=>∃us:Array Value,u=.tuple us∧us.size=m+1∧(∃(v0:Value) (xs:List Value),us[0]?=some v0∧v0.oneCell'=true∧w.ownsRow 0 E sz v0 n xs∧∀(i j:Nat),i<n→j<sz→∃z,xs[i*sz+j]?=some z∧z.oneCell'=true∧Hx S w us (ce i j) z) ∧
   (∀(r:Nat) (v:Value),us[r+1]?=some v→v.oneCell'=true∧oC S w v (f r))∧∀(r r':Nat) (v v':Value) (b:Nat),us[r]?=some v→us[r']?=some v'→aA v=some b→aA v'=some b→r=r'
def am.live:am→Bool
 | .dead=>false
 | .ro _ _ _ _ _=>false
 | _=>true
def am.isRo:am→Bool
 | .ro _ _ _ _ _=>true
 | _=>false
theorem am.three (A:am):A=.dead∨A.live=true∨A.isRo=true:=by
 cases A<;>first | exact .inl rfl | exact .inr (.inl rfl) | exact .inr (.inr rfl)
def am.isArr:am→Bool
 | .arr _ _ _ _ _=>true
 | _=>false
def am.isOwn:am→Bool
 | .arr _ _ _ _ _=>true
 | .nest _ _ _ _ _ _=>true
 | _=>false
theorem am.isOwn_arr {B:am} (h:B.isArr=true):B.isOwn=true:=by cases B<;>first | rfl | cases h
theorem A4 {B:am} (h:B.live=true):B.isRo=false:=by cases B<;>first | rfl | cases h
theorem jQ {B:am} (h:B.isArr=true):B.isRo=false:=by cases B<;>first | rfl | cases h
def am.free (id:Nat):am→Bool
 | .var _ cs=>D.freeL id cs
 | .loop _ _ _ env _ _ _ _ _=>bj id env
 | .frame _ env=>bj id env
 | .arrD _ _ _ gs _=>gs.all (fun g=>!(Nat.beq g id))
 | _=>true
theorem oC.stable {S S':Nat→Prop} {w w':World} {u:Value} {x:xL} (h:oC S w u x) (hS:∀b,S b→b<w.heap.size→S' b)
  (hw:∀b,S b→b<w.heap.size→w'.heap[b]?=w.heap[b]?) (M0:w.heap.size≤w'.heap.size) (hb:∀b,aA u=some b→w'.heap[b]?=w.heap[b]?):oC S' w' u x:=by
 obtain⟨h0,xs,⟨h1,h2⟩,h3⟩:=h
 refine⟨h0,xs,⟨h1,?_⟩,fun i x j y hx hy=>?_⟩
 ·rcases h2 with h2 | ⟨g,cap,Na,rfl,hg,hh,r⟩
  ·exact .inl h2
  ·exact .inr ⟨g,cap,Na,rfl,hg,by rw[hb g rfl];exact hh,r⟩
 ·obtain⟨z,hz,hr⟩:=h3 i x j y hx hy
  exact⟨z,hz,hr.stable hS hw M0⟩
theorem qY {w w':World} {E sz n:Nat} {u:Value} {xs:List Value} (h:w.ownsRow 0 E sz u n xs) (hb:∀b,aA u=some b→w'.heap[b]?=w.heap[b]?):w'.ownsRow 0 E sz u n xs:=by
 obtain⟨h1,h2⟩:=h
 refine⟨h1,?_⟩
 rcases h2 with h2 | ⟨g,cap,Na,rfl,hg,hh,r⟩
 ·exact .inl h2
 ·exact .inr ⟨g,cap,Na,rfl,hg,by rw[hb g rfl];exact hh,r⟩
theorem az.stable {S S':Nat→Prop} {μ μ':Nat→Value} {w w':World} {u:Value} {B:am} (h:az S μ w u B) (hS:∀b,S b→b<w.heap.size→S' b)
  (hw:∀b,S b→b<w.heap.size→w'.heap[b]?=w.heap[b]?) (M0:w.heap.size≤w'.heap.size) (hμ:∀id,B.free id=false→μ' id=μ id)
  (Nn:∀b,bi u b→w'.heap[b]?=w.heap[b]?):az S' μ' w' u B:=by
 have hb:∀b,aA u=some b→w'.heap[b]?=w.heap[b]?:=fun b h=>Nn b (.of h)
 cases B with
 | dead=>trivial
 | var T cs =>
  obtain⟨b,vs,rfl,h1,h2,h3⟩:=h
  refine⟨b,vs,rfl,by rw[hb b rfl];exact h1,h2,fun j y x hy hx=>(h3 j y x hy hx).stable hS hw M0 (fun id hf=>hμ id ?_)⟩
  simp only[am.free]
  cases hc:D.freeL id cs
  ·rfl
  ·rw[D.freeL_get hc hy]at hf;cases hf
 | arr E sz enc d l =>
  obtain⟨h0,xs,⟨h1,h2⟩,h3⟩:=h
  refine⟨h0,xs,⟨h1,?_⟩,fun i x j y hx hy=>?_⟩
  ·rcases h2 with h2 | ⟨g,cap,Na,rfl,hg,hh,r⟩
   ·exact .inl h2
   ·exact .inr ⟨g,cap,Na,rfl,hg,by rw[hb g rfl];exact hh,r⟩
  ·obtain⟨z,hz,hr⟩:=h3 i x j y hx hy
   exact⟨z,hz,hr.stable hS hw M0⟩
 | loop l tm nt env ps assign body state pending =>
  obtain⟨r,rfl,h1,h2,h3,h4,h5,h6,h7,h7',h8⟩:=h
  refine⟨r,rfl,by rw[hb l rfl];exact h1,h2,h3,h4,h5,h6,h7,h7',fun t d hm=>?_⟩
  obtain⟨q1,q2⟩:=h8 t d hm
  refine⟨q1,q2.stable hS hw M0 (fun id hf=>hμ id ?_)⟩
  simp only[am.free]
  cases hc:bj id env
  ·rfl
  ·rw[cE hc hm]at hf;cases hf
 | frame tm env =>
  obtain⟨rfl,h8⟩:=h
  refine⟨rfl,fun t d hm=>?_⟩
  obtain⟨q1,q2⟩:=h8 t d hm
  refine⟨q1,q2.stable hS hw M0 (fun id hf=>hμ id ?_)⟩
  simp only[am.free]
  cases hc:bj id env
  ·rfl
  ·rw[cE hc hm]at hf;cases hf
 | ro E sz enc d l =>
  obtain⟨h0,xs,⟨h1,h2⟩,h3⟩:=h
  refine⟨h0,xs,⟨h1,?_⟩,fun i x j y hx hy=>?_⟩
  ·rcases h2 with h2 | ⟨g,cap,Na,rfl,hg,hh,r⟩
   ·exact .inl h2
   ·exact .inr ⟨g,cap,Na,rfl,hg,by rw[hb g rfl];exact hh,r⟩
  ·obtain⟨z,hz,hr⟩:=h3 i x j y hx hy
   exact⟨z,hz,hr.stable hS hw M0⟩
 | mpb t ag enc d l =>
  obtain⟨b,arr,clock,rfl,h1,h2,h3⟩:=h
  refine⟨b,arr,clock,rfl,by rw[hb b rfl];exact h1,h2,fun i k x hx=>?_⟩
  obtain⟨e,q1,q2,q4,q3⟩:=h3 i k x hx
  exact⟨e,q1,q2,q4,q3.stable hS hw M0 (fun id hf=>by rw[ts]at hf;cases hf)⟩
 | arrD E sz n gs cell =>
  obtain⟨h0,xs,⟨h1,h2⟩,h3⟩:=h
  refine⟨h0,xs,⟨h1,?_⟩,fun i j hi hj=>?_⟩
  ·rcases h2 with h2 | ⟨g,cap,Na,rfl,hg,hh,r⟩
   ·exact .inl h2
   ·exact .inr ⟨g,cap,Na,rfl,hg,by rw[hb g rfl];exact hh,r⟩
  ·obtain⟨z,hz,ho,hr⟩:=h3 i j hi hj
   refine⟨z,hz,ho,hr.stable hS hw M0 (fun id hf=>hμ id ?_)⟩
   simp only[am.free]
   cases hc:gs.all (fun g=>!(Nat.beq g id))
   ·rfl
   ·rw[h0 i j id hi hj hc]at hf;cases hf
 | grp n f =>
  obtain⟨us,rfl,h1,h2,h3⟩:=h
  exact⟨us,rfl,h1,fun r v hv=>⟨(h2 r v hv).1,(h2 r v hv).2.stable hS hw M0 (fun b Rj=>Nn b (.inr ⟨us,rfl,r,v,hv,Rj⟩))⟩,h3⟩
 | nest E sz n ce m f =>
  obtain⟨us,rfl,h1,⟨v0,xs,g1,g2,g3,g4⟩,h2,h3⟩:=h
  refine⟨us,rfl,h1,⟨v0,xs,g1,g2,qY g3 (fun b Rj=>Nn b (.inr ⟨us,rfl,0,v0,g1,Rj⟩)),fun i j hi hj=>?_⟩,fun r v hv=>⟨(h2 r v hv).1,(h2 r v hv).2.stable hS hw M0 (fun b Rj=>Nn b (.inr ⟨us,rfl,r+1,v,hv,Rj⟩))⟩,h3⟩
  obtain⟨z,q1,q2,q3⟩:=g4 i j hi hj
  refine⟨z,q1,q2,?_⟩
  cases hc:ce i j with
  | v x=>rw[hc]at q3;exact q3.stable hS hw M0
  | me r=>rw[hc]at q3;exact q3
theorem az.ro_arr {S:Nat→Prop} {μ:Nat→Value} {w:World} {u:Value} {E sz:Nat} {α:Type} {enc:α→List V} {d:α} {l:List α} (h:az S μ w u (.ro E sz enc d l)):az S μ w u (.arr E sz enc d l):=h
theorem az.lt {S:Nat→Prop} {μ:Nat→Value} {w:World} {u:Value} {B:am} (h:az S μ w u B) (hl:B.live=true):∀b,bi u b→b<w.heap.size:=by
 intro b hb
 cases B with
 | dead=>cases hl
 | var T cs =>
  obtain⟨b',vs,rfl,h1,_⟩:=h
  simp[bi,aA]at hb
  subst hb
  exact(KQ.1 h1).1
 | arr E sz enc d l =>
  obtain⟨_,xs,⟨h1,h2⟩,_⟩:=h
  rcases h2 with ⟨rfl,_⟩ | ⟨g,cap,Na,rfl,hg,hh,r⟩
  ·simp[bi,aA]at hb
  ·simp[bi,aA]at hb
   subst hb
   exact(KQ.1 hh).1
 | loop l tm nt env ps assign body state pending =>
  obtain⟨r,rfl,h1,_⟩:=h
  simp[bi,aA]at hb
  subst hb
  exact(KQ.1 h1).1
 | frame tm env =>
  obtain⟨rfl,_⟩:=h
  simp[bi,aA]at hb
 | ro E sz enc d l=>cases hl
 | mpb t ag enc d l =>
  obtain⟨b',arr,clock,rfl,h1,_⟩:=h
  simp[bi,aA]at hb
  subst hb
  exact(KQ.1 h1).1
 | arrD E sz n gs cell =>
  obtain⟨_,xs,⟨h1,h2⟩,_⟩:=h
  rcases h2 with ⟨rfl,_⟩ | ⟨g,cap,Na,rfl,hg,hh,r⟩
  ·simp[bi,aA]at hb
  ·simp[bi,aA]at hb
   subst hb
   exact(KQ.1 hh).1
 | grp n f =>
  obtain⟨us,rfl,h1,h2,h3⟩:=h
  rcases hb with hb | ⟨N8,he,k,x,hx,hb⟩
  ·simp[aA]at hb
  ·cases he
   obtain⟨_,_,xs,⟨_,h2⟩,_⟩:=h2 k x hx
   rcases h2 with ⟨rfl,_⟩ | ⟨g,cap,Na,rfl,hg,hh,r⟩
   ·simp[aA]at hb
   ·simp[aA]at hb
    subst hb
    exact(KQ.1 hh).1
 | nest E sz n ce m f =>
  obtain⟨us,rfl,h1,⟨v0,xs,g1,g2,g3,g4⟩,h2,h3⟩:=h
  rcases hb with hb | ⟨N8,he,k,x,hx,hb⟩
  ·simp[aA]at hb
  ·cases he
   have key:∃E' Nk n' xs',w.ownsRow 0 E' Nk x n' xs':=by
    cases k with
    | zero=>rw[g1]at hx;cases hx;exact⟨_,_,_,_,g3⟩
    | succ k=>obtain⟨_,_,xs,h,_⟩:=h2 k x hx;exact⟨_,_,_,_,h⟩
   obtain⟨E',Nk,n',xs',_,h2⟩:=key
   rcases h2 with ⟨rfl,_⟩ | ⟨g,cap,Na,rfl,hg,hh,r⟩
   ·simp[aA]at hb
   ·simp[aA]at hb
    subst hb
    exact(KQ.1 hh).1
theorem az.ltR {S:Nat→Prop} {μ:Nat→Value} {w:World} {u:Value} {B:am} (h:az S μ w u B) (hr:B.isRo=true):∀b,bi u b→b<w.heap.size:=by
 cases B<;>first | (cases hr;done) | skip
 exact h.ro_arr.lt rfl
structure aV (S:Nat→Prop) (μ:Nat→Value) (w:World) (H:List am):Prop where
 box:∀(id:Nat) (B:am),H[id]?=some B→az S μ w (μ id) B
 apart:∀(i j:Nat) (A B:am) (b:Nat),H[i]?=some A→H[j]?=some B→A.live=true→B.live=true→bi (μ i) b→bi (μ j) b→i=j
 notS:∀(i:Nat) (A:am) (b:Nat),H[i]?=some A→A.live=true→bi (μ i) b→¬S b
def gK:List (Nat×List V):=J1.map fun p=>(p.1,p.2.map fun o=>o.elim .nilf V.fnv)
def er (S:Nat→Prop) (w:World):Prop:=∀(g:Nat) (cs:List V),(g,cs)∈gK→S g∧g<w.heap.size∧∀(j:Nat) (y:V),cs[j]?=some y→∃u,w.cell? ⟨g,j,none⟩=some u∧ci S w y u
theorem er.stable {S S':Nat→Prop} {w w':World} (h:er S w) (hS:∀b,S b→b<w.heap.size→S' b)
  (hw:∀b,S b→b<w.heap.size→w'.heap[b]?=w.heap[b]?) (M0:w.heap.size≤w'.heap.size):er S' w':=fun g cs hm=>by
 obtain⟨h1,h2,h3⟩:=h g cs hm
 refine⟨hS g h1 h2,by omega,fun j y hy=>?_⟩
 obtain⟨u,hu,hr⟩:=h3 j y hy
 exact⟨u,by rw[← hu];exact MD (hw g h1 h2),hr.stable hS hw M0⟩
theorem A5 {S:Nat→Prop} {w:World} (h:J1=[]):er S w:=fun g cs hm=>by
 unfold gK at hm;rw[h]at hm;cases hm
structure jC where
 P:Program
 W:World
 S0:Nat→Prop
 nt:Nat
 susp:List Nat
 rd:Option Nat
 g:er S0 W
structure St:Type 1 where
 env:List (Nat×D)
 heap:List am
structure aK (C:jC) (S:Nat→Prop) (μ:Nat→Value) (st:St) (a:Act) (w:World):Prop where
 os:w.os=C.W.os
 tape:w.tape=C.W.tape
 output:w.output=C.W.output
 size:C.W.heap.size≤w.heap.size
 old:∀k,k<C.W.heap.size→w.heap[k]?=C.W.heap[k]?
 mono:∀b,C.S0 b→S b
 new:∀b,S b→C.S0 b∨C.W.heap.size≤b
 slt:∀b,S b→b<w.heap.size
 env:∀(t:Nat) (d:D),(t,d)∈st.env→t<C.nt∧ah S μ w d (a.tmps.getD t undef)
 heap:aV S μ w st.heap
 may:∀(i:Nat) (A:am) (b:Nat),st.heap[i]?=some A→A.live=true→bi (μ i) b→C.W.heap.size≤b
 defers:∃mk:List Nat,a.defers=mk.map (fun b=>{ target:=.collected b,args:=#[] })∧(mk++C.susp).Nodup∧∀b∈mk++C.susp,w.heap[b]?=some (.deferred (some []))∧C.W.heap.size≤b∧¬S b∧∀(i:Nat) (A:am),st.heap[i]?=some A→A.live=true→¬bi (μ i) b
 tsize:a.tmps.size=C.nt
 ro:∀(i:Nat) (A:am) (b:Nat),st.heap[i]?=some A→A.isRo=true→bi (μ i) b→b<C.W.heap.size
theorem aK.glob {C:jC} {S:Nat→Prop} {μ:Nat→Value} {st:St} {a:Act} {w:World} (h:aK C S μ st a w):er S w :=
 C.g.stable (fun b hb _=>h.mono b hb) (fun b _ hb=>h.old b hb) h.size
def D.ofVal1:Value→D
 | .int k n=>.v (.int k n)
 | .bool b=>.v (.bool b)
 | .string s=>.v (.str s)
 | .slice none 0 0=>.nils
 | .nilFunc=>.v .nilf
 | .map none=>.v .nmp
 | .func f a b=>if a.isEmpty&&b.isEmpty then .fn f [] []else .junk
 | _=>.junk
def D.ofVal:Value→D
 | .agg us=>.agg (us.toList.map D.ofVal1)
 | u=>D.ofVal1 u
theorem eX {α:Type _} (l:List α) (d:α) {i:Nat} (h:i<l.length):l.getD i d=l[i]:=by simp[List.getD,h]
theorem ah.ofVal1 (S:Nat→Prop) (μ:Nat→Value) (w:World) (u:Value):ah S μ w (D.ofVal1 u) u:=by
 unfold D.ofVal1
 split
 ·exact .v _ _ (.int _ _)
 ·exact .v _ _ (.bool _)
 ·exact .v _ _ (.str _)
 ·exact .nils
 ·exact .v _ _ .nilf
 ·exact .v _ _ .nmp
 ·split
  ·rename_i f a b h
   simp only[KD,Array.isEmpty_iff]at h
   obtain⟨rfl,rfl⟩:=h
   exact .fn f [] [] #[] #[] rfl (fun j y u h=>by simp at h) rfl (fun j y u h=>by simp at h)
  ·exact .junk _
 ·exact .junk _
theorem ah.ofVal (S:Nat→Prop) (μ:Nat→Value) (w:World) (u:Value):ah S μ w (D.ofVal u) u:=by
 unfold D.ofVal
 split
 ·rename_i us
  refine .agg _ us (by simp) (fun j y u hy hu=>?_)
  simp only[KX,Ld,hu,Lj,KP]at hy
  subst hy
  exact ah.ofVal1 S μ w u
 ·exact ah.ofVal1 S μ w _
abbrev R1:=D×Prop
def aG:R1:=(.junk,False)
def ap (P:Program) (t:TypeId):Nat:=((P.info? t).map (·.size)).getD 0
def tu (P:Program) (t:TypeId):Bool:=match P.underlying t with | some (.struct _)=>true | some (.array _ _)=>true | _=>false
def bL (P:Program) (t:TypeId):Bool:=(P.info? t).isSome&&(P.underlying t).isSome
def cu (P:Program) (t:TypeId) (cs:List D) (L':Nat):R1 :=
 if bL P t&&Nat.ble (L'+ap P t) cs.length&&(tu P t||Nat.beq (ap P t) 1)then
  (if tu P t then .agg ((cs.drop L').take (ap P t))else cs.getD L' .junk,True)
 else aG
def zp (P:Program) (t:TypeId) (H:List am):D→R1
 | .ptr id i sz L'=>match H[id]? with
  | some (.var _ cs)=>if Nat.beq i 0 then cu P t cs L' else aG
  | some (.arr _ Nk enc d l)=>if Nat.beq sz Nk then
    (match cu P t ((enc (l.getD i d)).map D.v) L' with | (x,p)=>(x,i<l.length∧p))else aG
  | some (.ro _ Nk enc d l)=>if Nat.beq sz Nk then
    (match cu P t ((enc (l.getD i d)).map D.v) L' with | (x,p)=>(x,i<l.length∧p))else aG
  | some (.arrD _ Nk n _ cell)=>if Nat.beq sz Nk then
    (match cu P t ((List.range sz).map (cell i)) L' with | (x,p)=>(x,i<n∧p))else aG
  | _=>aG
 | .iptr cs L'=>cu P t (cs.map D.v) L'
 | _=>aG
section
variable {P:Program} {S:Nat→Prop} {μ:Nat→Value} {w:World}
theorem cV {t:TypeId} (h:bL P t=true) (w:World):(sizeOf t).run P w=.ok (ap P t) w:=by
 unfold bL at h
 cases hi:P.info? t with
 | none=>simp[hi]at h
 | some i=>simp[sizeOf,typeInfo,hi,ap]
theorem tv {t:TypeId} (h:bL P t=true) (w:World):(isAgg t).run P w=.ok (tu P t) w:=by
 unfold bL at h
 cases hu:P.underlying t with
 | none=>simp[hu]at h
 | some d =>
  unfold isAgg
  simp only[KH,Lh hu,KG]
  unfold tu
  rw[hu]
  cases d<;>rfl
def iY (S:Nat→Prop) (μ:Nat→Value) (w:World) (b o:Nat) (cs:List D):Prop :=
 ∀(j:Nat) (y:D),cs[j]?=some y→∃u,w.cell? ⟨b,o+j,none⟩=some u∧ah S μ w y u
theorem cF (b o i:Nat):(⟨b,o,none⟩:Addr).add i=⟨b,o+i,none⟩:=by unfold Addr.add;split<;>simp_all
theorem gW {b o:Nat} {cs:List D} (h:iY S μ w b o cs):∀(n i:Nat) (Nw:Array Value),i+n≤cs.length →
  ∃us:Array Value,(loadCellsFrom ⟨b,o,none⟩ i n Nw).run P w=.ok (Nw++us) w∧us.size=n∧∀(j:Nat) (y:D) (u:Value),cs[i+j]?=some y→us[j]?=some u→ah S μ w y u
 | 0,i,Nw,_=>⟨#[],by simp[loadCellsFrom],rfl,fun j y u _ hu=>by simp at hu⟩
 | n+1,i,Nw,hl=>by
  have hi:i<cs.length:=by omega
  obtain⟨u,hu,hr⟩:=h i cs[i] (KF hi)
  obtain⟨us,h1,h2,h3⟩:=gW h n (i+1) (Nw.push u) (by omega)
  refine⟨#[u]++us,?_,by simp[h2];omega,fun j y x hy hx=>?_⟩
  ·have hld:(load ⟨b,o+i,none⟩).run P w=.ok u w:=by simp[load,Sem.run,hu]
   rw[loadCellsFrom,cF,KH,hld,KG,h1]
   congr 1
   rw[Array.push_eq_append,Array.append_assoc]
  ·cases j with
   | zero =>
    have OZ:x=u:=by
     rw[Array.getElem?_append_left (by simp)]at hx
     simpa using hx.symm
    rw[OZ]
    rw[Ma,KF hi]at hy
    cases hy
    exact hr
   | succ j =>
    refine h3 j y x (by rw[show i+1+j=i+(j+1)from by omega];exact hy) ?_
    rw[Array.getElem?_append_right (by simp)]at hx
    simpa using hx
theorem fa {t:TypeId} {cs:List D} {L' b o:Nat} {d:D} {p:Prop} (hp:cu P t cs L'=(d,p)) (D':p) (h:iY S μ w b o cs) :
  ∃u,(loadVar t ⟨b,o+L',none⟩).run P w=.ok u w∧ah S μ w d u:=by
 unfold cu at hp
 split at hp
 ·rename_i hc
  simp only[KD,Lf,LJ,KU]at hc
  obtain⟨⟨hk,hl⟩,hs⟩:=hc
  simp only[KJ]at hp
  obtain⟨rfl,_⟩:=hp
  have h':iY S μ w b (o+L') (cs.drop L'):=fun j y hy=>by
   rw[LZ]at hy
   rw[Nat.add_assoc]
   exact h _ _ hy
  unfold loadVar
  simp only[KH,tv hk,KG]
  cases ha:tu P t
  ·simp only[Lm,L6]
   rw[ha]at hs
   have Nl:ap P t=1:=by simpa using hs
   have M6:L'<cs.length:=by omega
   obtain⟨u,hu,hr⟩:=h L' cs[L'] (KF M6)
   refine⟨u,by simp[load,Sem.run,hu],?_⟩
   rw[eX _ _ M6]
   exact hr
  ·simp only[L9]
   obtain⟨us,h1,h2,h3⟩:=gW (P:=P) h' (ap P t) 0 #[] (by rw[K7];omega)
   refine⟨.agg us,?_,.agg _ _ (by rw[h2,KV,K7];omega) (fun j y u hy hu=>h3 j y u ?_ hu)⟩
   ·simp only[KH,cV hk,KG,loadCells,h1,KZ,Array.empty_append]
   ·rw[K4]at hy
    split at hy
    ·simpa using hy
    ·cases hy
 ·simp only[aG,KJ]at hp
  obtain⟨_,rfl⟩:=hp
  exact D'.elim
theorem ir {E sz n:Nat} {u:Value} {xs:List Value} (h:w.ownsRow 0 E sz u n xs) {b:Nat} (hb:aA u=some b):∀j z,xs[j]?=some z→w.cell? ⟨b,j,none⟩=some z:=by
 intro j z hz
 have D':u.ownBlock=some b:=by
  cases u<;>simp[aA]at hb ⊢
  ·obtain⟨h1,h2⟩:=h
   rcases h2 with ⟨h2,_⟩ | ⟨_,_,_,h2,_⟩<;>cases h2
  ·rename_i a len cap
   cases a with
   | none=>simp at hb
   | some a=>simp at hb;simp[Value.ownBlock,hb]
  ·obtain⟨h1,h2⟩:=h
   rcases h2 with ⟨h2,_⟩ | ⟨_,_,_,h2,_⟩<;>cases h2
 have:=h.cells D' j z hz
 rwa [cF,Li]at this
theorem az.arr_cells {E sz:Nat} {α:Type} {enc:α→List V} {d:α} {l:List α} {u:Value} (h:az S μ w u (.arr E sz enc d l)) {b i:Nat} (hb:aA u=some b) (hi:i<l.length) :
  iY S μ w b (i*sz) ((enc (l.getD i d)).map D.v):=by
 obtain⟨h0,xs,h1,h2⟩:=h
 intro j y hy
 rw[KX]at hy
 have hx:l[i]?=some (l.getD i d):=by rw[eX _ _ hi];exact KF hi
 cases he:(enc (l.getD i d))[j]? with
 | none=>rw[he]at hy;cases hy
 | some z =>
  rw[he]at hy
  simp only[Lj,KP]at hy
  subst hy
  obtain⟨q,hq,hr⟩:=h2 i _ j z hx he
  exact⟨q,ir h1 hb _ _ hq,.v _ _ hr⟩
theorem az.arrD_cells {E sz n:Nat} {gs:List Nat} {cell:Nat→Nat→D} {u:Value} (h:az S μ w u (.arrD E sz n gs cell)) {b i:Nat} (hb:aA u=some b) (hi:i<n) :
  iY S μ w b (i*sz) ((List.range sz).map (cell i)):=by
 obtain⟨h0,xs,h1,h2⟩:=h
 intro j y hy
 rw[KX]at hy
 by_cases hj:j<sz
 ·rw[List.getElem?_range hj]at hy
  simp only[Lj,KP]at hy
  subst hy
  obtain⟨z,hz,_,hr⟩:=h2 i j hi hj
  exact⟨z,ir h1 hb _ _ hz,hr⟩
 ·rw[Lo (by simp;omega)]at hy
  cases hy
theorem az.var_cells {T:TypeId} {cs:List D} {u:Value} (h:az S μ w u (.var T cs)) {b:Nat} (hb:aA u=some b):iY S μ w b 0 cs:=by
 obtain⟨b',vs,rfl,h1,h2,h3⟩:=h
 simp[aA]at hb
 subst hb
 intro j y hy
 have hj:=(KE.1 hy).1
 have hv:vs[j]?=some vs[j]:=K0 (by omega)
 refine⟨vs[j],?_,h3 j y _ hy hv⟩
 simp[World.cell?,h1,hv]
theorem qZ {cs:List V} {L':Nat} {u:Value} (h:ah S μ w (.iptr cs L') u):∃b o,u=.pointer (some ⟨b,o+L',none⟩)∧iY S μ w b o (cs.map D.v):=by
 cases h with
 | iptr _ _ b o us h1 h2 h3 h4 =>
  refine⟨b,o,rfl,fun j y hy=>?_⟩
  rw[KX]at hy
  cases he:cs[j]? with
  | none=>rw[he]at hy;cases hy
  | some z =>
   rw[he]at hy
   simp only[Lj,KP]at hy
   subst hy
   exact⟨_,h3 j z he,.v _ _ (h4 j z he)⟩
theorem kK {id i sz L':Nat} {u:Value} (h:ah S μ w (.ptr id i sz L') u):∃b,aA (μ id)=some b∧u=.pointer (some ⟨b,i*sz+L',none⟩):=by
 cases h with
 | ptr _ _ _ _ b h=>exact⟨b,h,rfl⟩
theorem pz {t:TypeId} {H:List am} (hH:aV S μ w H) {a d:D} {p:Prop} {ua:Value} (ha:ah S μ w a ua) (hp:zp P t H a=(d,p)) (D':p) :
  ∃u,(Instr.loadAt t ua).run P w=.ok u w∧ah S μ w d u:=by
 unfold zp at hp
 split at hp
 ·rename_i id i sz L'
  obtain⟨b,hb,rfl⟩:=kK ha
  split at hp
  ·rename_i T cs G'
   split at hp
   ·rename_i hi
    simp only[KU]at hi
    subst hi
    obtain⟨u,h1,h2⟩:=fa (P:=P) hp D' ((hH.box id _ G').var_cells hb)
    refine⟨u,?_,h2⟩
    simpa[Instr.loadAt,Instr.sureAddr]using h1
   ·cases hp;exact D'.elim
  ·rename_i E Nk enc d' l G'
   split at hp
   ·rename_i hs
    simp only[KU]at hs
    subst hs
    generalize hq:cu P t ((enc (l.getD i d')).map D.v) L'=q at hp
    obtain⟨x,p'⟩:=q
    simp only[KJ]at hp
    obtain⟨rfl,rfl⟩:=hp
    obtain⟨u,h1,h2⟩:=fa (P:=P) hq D'.2 ((hH.box id _ G').arr_cells hb D'.1)
    refine⟨u,?_,h2⟩
    simpa[Instr.loadAt,Instr.sureAddr]using h1
   ·cases hp;exact D'.elim
  ·rename_i E Nk enc d' l G'
   split at hp
   ·rename_i hs
    simp only[KU]at hs
    subst hs
    generalize hq:cu P t ((enc (l.getD i d')).map D.v) L'=q at hp
    obtain⟨x,p'⟩:=q
    simp only[KJ]at hp
    obtain⟨rfl,rfl⟩:=hp
    obtain⟨u,h1,h2⟩:=fa (P:=P) hq D'.2 ((hH.box id _ G').ro_arr.arr_cells hb D'.1)
    refine⟨u,?_,h2⟩
    simpa[Instr.loadAt,Instr.sureAddr]using h1
   ·cases hp;exact D'.elim
  ·rename_i E Nk n gs cell G'
   split at hp
   ·rename_i hs
    simp only[KU]at hs
    subst hs
    generalize hq:cu P t ((List.range sz).map (cell i)) L'=q at hp
    obtain⟨x,p'⟩:=q
    simp only[KJ]at hp
    obtain⟨rfl,rfl⟩:=hp
    obtain⟨u,h1,h2⟩:=fa (P:=P) hq D'.2 ((hH.box id _ G').arrD_cells hb D'.1)
    refine⟨u,?_,h2⟩
    simpa[Instr.loadAt,Instr.sureAddr]using h1
   ·cases hp;exact D'.elim
  ·cases hp;exact D'.elim
 ·rename_i cs L'
  obtain⟨b,o,rfl,hc⟩:=qZ ha
  obtain⟨u,h1,h2⟩:=fa (P:=P) hp D' hc
  refine⟨u,?_,h2⟩
  simpa[Instr.loadAt,Instr.sureAddr]using h1
 ·cases hp;exact D'.elim
end
def ra (n:Nat):D→R1
 | .ptr id i sz L'=>(.ptr id i sz (L'+n),True)
 | .iptr cs L'=>(.iptr cs (L'+n),True)
 | _=>aG
def mh (P:Program) (s:TypeId) (x:D) (f:Nat):R1 :=
 match P.underlying s with
 | some (.struct fs)=>match fs[f]? with
  | some Rk=>if bL P Rk.type&&!(Nat.beq (ap P Rk.type) 0)then ra Rk.offset x else aG
  | none=>aG
 | _=>aG
def mi (P:Program) (t:TypeId) (H:List am) (x i:D):R1 :=
 match P.underlying t,x,i with
 | some (.slice e),.v (.sl sz enc d l),.v (.int _ n)=>if bL P e&&Nat.beq (ap P e) sz then (.iptr (enc (l.getD n.toNat d)) 0,0≤n∧n<l.length)else aG
 | some (.slice e),.own id,.v (.int _ n)=>match H[id]? with
  | some (.arr _ sz _ _ l)=>if bL P e&&Nat.beq (ap P e) sz then (.ptr id n.toNat sz 0,0≤n∧n<l.length)else aG
  | some (.ro _ sz _ _ l)=>if bL P e&&Nat.beq (ap P e) sz then (.ptr id n.toNat sz 0,0≤n∧n<l.length)else aG
  | some (.arrD _ sz m _ _)=>if bL P e&&Nat.beq (ap P e) sz then (.ptr id n.toNat sz 0,0≤n∧n<(m:Int))else aG
  | _=>aG
 | some (.array len e),x,.v (.int _ n)=>if bL P e then (match ra (n.toNat*ap P e) x with | (y,p)=>(y,(0≤n∧n<(len:Int))∧p))else aG
 | _,_,_=>aG
def xU (P:Program) (t:TypeId) (x:D) (f:Nat):R1 :=
 match P.underlying t,x with
 | some (.struct fs),.agg cs=>match fs[f]? with
  | some Rk=>cu P Rk.type cs Rk.offset
  | none=>aG
 | _,_=>aG
def xV (P:Program) (t:TypeId) (x i:D):R1 :=
 match P.underlying t,x,i with
 | some (.array len e),.agg cs,.v (.int _ n)=>(match cu P e cs (n.toNat*ap P e)with | (y,p)=>(y,(0≤n∧n<(len:Int))∧p))
 | some .string,.v (.str s),.v (.int _ n)=>(.v (.int .u8 ((s[n.toNat]?).getD 0).toNat),0≤n∧n<s.size)
 | _,_,_=>aG
def ES:D→Int
 | .v (.int _ n)=>n
 | _=>0
def xW:D→Bool
 | .v (.int _ _)=>true
 | _=>false
def mj:Option D→Int
 | some d=>ES d
 | none=>0
def fI (n:Int):Option D→Int
 | some d=>ES d
 | none=>n
def uS:Option D→Bool
 | some d=>xW d
 | none=>true
def uT {α:Type} (l:List α):Option D→List α
 | some h=>l.take (ES h).toNat
 | none=>l
def uU (P:Program) (t:TypeId) (x:D) (lo hi mx:Option D):R1 :=
 match P.underlying t,x,lo,hi,mx with
 | some (.slice e),.v (.sl sz enc d l),none,some (.v (.int _ h)),some (.v (.int _ k))=>if bL P e&&Nat.beq (ap P e) sz then
   (.capd (.sl sz enc d (l.take h.toNat)),0≤h∧h≤l.length∧k=h)else aG
 | _,_,_,_,_=>aG
def oD:List V→Option (IntKind×List Int)
 | [.int k n]=>some (k,[n])
 | .int k n::r=>match oD r with
  | some (k',l)=>if k==k' then some (k,n::l)else none
  | none=>none
 | _=>none
def xX (P:Program) (t:TypeId) (x:D) (lo hi mx:Option D):R1 :=
 if mx.isSome then uU P t x lo hi mx else
 if uS lo&&uS hi&&mx.isNone then
  match P.underlying t,x with
  | some (.slice e),.v (.sl sz enc d l)=>if bL P e&&Nat.beq (ap P e) sz then
    (.v (.sl sz enc d ((uT l hi).drop (mj lo).toNat)),0≤mj lo∧mj lo≤fI l.length hi∧fI l.length hi≤l.length)else aG
  | some .string,.v (.str s)=>(.v (.str (s.extract (mj lo).toNat (fI s.size hi).toNat)),0≤mj lo∧mj lo≤fI s.size hi∧fI s.size hi≤s.size)
  | some (.array n e),.iptr cs L'=>match oD cs with
   | some (k,l)=>if bL P e&&Nat.beq (ap P e) 1&&Nat.beq l.length n&&Nat.beq L' 0&&Nat.ble n maxLen then
     (.v (.sl 1 (fun x:Int=>[.int k x]) 0 ((uT l hi).drop (mj lo).toNat)),0≤mj lo∧mj lo≤fI l.length hi∧fI l.length hi≤l.length)else aG
   | none=>aG
  | _,_=>aG
 else aG
section
variable {P:Program} {S:Nat→Prop} {μ:Nat→Value} {w:World}
theorem mU {n:Nat} {x d:D} {p:Prop} {ux:Value} (hx:ah S μ w x ux) (hp:ra n x=(d,p)) (D':p) :
  ∃b o,ux=.pointer (some ⟨b,o,none⟩)∧ah S μ w d (.pointer (some ⟨b,o+n,none⟩)):=by
 unfold ra at hp
 split at hp
 ·rename_i id i sz L'
  obtain⟨b,hb,rfl⟩:=kK hx
  cases hp
  exact⟨b,_,rfl,by rw[Nat.add_assoc];exact .ptr _ _ _ _ _ hb⟩
 ·rename_i cs L'
  cases hp
  cases hx with
  | iptr _ _ b o us h1 h2 h3 h4=>exact⟨b,_,rfl,by rw[Nat.add_assoc];exact .iptr cs _ b o us h1 h2 h3 h4⟩
 ·cases hp;exact D'.elim
theorem oE {s:TypeId} {x d:D} {f:Nat} {p:Prop} {ux:Value} (hx:ah S μ w x ux) (hp:mh P s x f=(d,p)) (D':p) :
  ∃u,(Instr.fieldAt s ux f).run P w=.ok u w∧ah S μ w d u:=by
 unfold mh at hp
 split at hp
 ·rename_i fs hu
  split at hp
  ·rename_i Rk hf
   split at hp
   ·rename_i hc
    simp only[KD,K5,KU]at hc
    obtain⟨hk,hz⟩:=hc
    have hz:ap P Rk.type≠0:=by
     intro e
     rw[e]at hz
     cases hz
    obtain⟨b,o,rfl,hd⟩:=mU hx hp D'
    refine⟨_,?_,hd⟩
    have hr:(fieldPlace ⟨b,o,none⟩ Rk).run P w=.ok ⟨b,o+Rk.offset,none⟩ w:=by
     unfold fieldPlace
     simp only[KH,cV hk,KG]
     rw[KK hz,KZ,cF]
    simp only[Instr.fieldAt,KH,Lh hu,KG,hf,Instr.sureAddr,KZ,hr]
   ·cases hp;exact D'.elim
  ·cases hp;exact D'.elim
 ·cases hp;exact D'.elim
theorem dY {sz:Nat} {α:Type} {enc:α→List V} {d:α} {l:List α} {u:Value} (h:ci S w (.sl sz enc d l) u) :
  ∃p c,u=.slice p l.length c∧l.length≤c∧c≤maxLen∧(p=none→c=0)∧(0<l.length→∃(b L':Nat) (us:Nat→Nat→Value),p=some ⟨b,L',none⟩∧S b∧b<w.heap.size ∧
   (∀(i:Nat) (x:α),l[i]?=some x→(enc x).length=sz) ∧
   (∀(i:Nat) (x:α) (j:Nat) (y:V),l[i]?=some x→(enc x)[j]?=some y→w.cell? ⟨b,L'+(i*sz+j),none⟩=some (us i j)) ∧
   (∀(i:Nat) (x:α) (j:Nat) (y:V),l[i]?=some x→(enc x)[j]?=some y→ci S w y (us i j))):=by
 generalize hv:V.sl sz enc d l=v at h
 cases h with
 | int k n=>cases hv
 | bool b=>cases hv
 | str s=>cases hv
 | mp=>cases hv
 | nilf=>cases hv
 | nsl=>cases hv
 | esl=>cases hv
 | smn=>cases hv
 | sm=>cases hv
 | nmp=>cases hv
 | fnv=>cases hv
 | nil Nk MW d' p c h1 h2 =>
  cases hv
  exact⟨p,c,rfl,Mf _,h1,h2,fun h=>absurd h (by simp)⟩
 | row Nk MW d' l' b L' c n us h1 h2 h3 h4 h5 h6 h7 h8 =>
  cases hv
  subst h3
  exact⟨_,c,rfl,h4,h5,(fun h=>by cases h),fun _=>⟨b,L',us,rfl,h1,h2,h6,h7,h8⟩⟩
theorem jR {sz:Nat} {α:Type} {enc:α→List V} {d:α} {l:List α} {p:Option Addr} {n c:Nat} (hn:n=l.length) (h1:l.length≤c) (h2:c≤maxLen) (h3:p=none→c=0)
  (h:0<l.length→∃(b L':Nat) (us:Nat→Nat→Value),p=some ⟨b,L',none⟩∧S b∧b<w.heap.size ∧
   (∀(i:Nat) (x:α),l[i]?=some x→(enc x).length=sz) ∧
   (∀(i:Nat) (x:α) (j:Nat) (y:V),l[i]?=some x→(enc x)[j]?=some y→w.cell? ⟨b,L'+(i*sz+j),none⟩=some (us i j)) ∧
   (∀(i:Nat) (x:α) (j:Nat) (y:V),l[i]?=some x→(enc x)[j]?=some y→ci S w y (us i j))):ci S w (.sl sz enc d l) (.slice p n c):=by
 subst hn
 cases l with
 | nil=>exact .nil sz enc d p c h2 h3
 | cons x l =>
  obtain⟨b,L',us,rfl,q1,q2,q3,q4,q5⟩:=h (by simp)
  exact .row sz enc d _ b L' c _ us q1 q2 rfl h1 h2 q3 q4 q5
theorem bv {E sz:Nat} {α:Type} {enc:α→List V} {d:α} {l:List α} {u:Value} (h:az S μ w u (.arr E sz enc d l)) :
  ∃p c,u=.slice p l.length c∧l.length≤c∧c≤maxLen∧(p=none→c=0)∧(0<l.length→∃g,p=some ⟨g,0,none⟩):=by
 obtain⟨_,xs,⟨h1,h2⟩,_⟩:=h
 rcases h2 with ⟨rfl,hl⟩ | ⟨g,cap,Na,rfl,hg,hh,q1,q2,_⟩
 ·exact⟨none,0,by rw[hl],by omega,by simp[maxLen],fun _=>rfl,fun h=>by omega⟩
 ·exact⟨_,cap,rfl,q1,q2,(fun h=>by cases h),fun _=>⟨g,rfl⟩⟩
theorem eu {E sz n:Nat} {gs:List Nat} {cell:Nat→Nat→D} {u:Value} (h:az S μ w u (.arrD E sz n gs cell)) :
  ∃p c,u=.slice p n c∧n≤c∧c≤maxLen∧(p=none→c=0)∧(0<n→∃g,p=some ⟨g,0,none⟩):=by
 obtain⟨_,xs,⟨h1,h2⟩,_⟩:=h
 rcases h2 with ⟨rfl,hl⟩ | ⟨g,cap,Na,rfl,hg,hh,q1,q2,_⟩
 ·exact⟨none,0,by rw[hl],by omega,by simp[maxLen],fun _=>rfl,fun h=>by omega⟩
 ·exact⟨_,cap,rfl,q1,q2,(fun h=>by cases h),fun _=>⟨g,rfl⟩⟩
theorem bp {k:IntKind} {n:Int} {u:Value} (h:ah S μ w (.v (.int k n)) u):u=.int k n:=by
 cases h with | v _ _ h=>cases h;rfl
theorem dZ {b:Bool} {u:Value} (h:ah S μ w (.v (.bool b)) u):u=.bool b:=by
 cases h with | v _ _ h=>cases h;rfl
theorem d4 {s:ByteArray} {u:Value} (h:ah S μ w (.v (.str s)) u):u=.string s:=by
 cases h with | v _ _ h=>cases h;rfl
theorem ba {x:V} {u:Value} (h:ah S μ w (.v x) u):ci S w x u:=by
 cases h with | v _ _ h=>exact h
theorem a6 {id:Nat} {u:Value} (h:ah S μ w (.own id) u):u=μ id:=by
 cases h;rfl
theorem d5 {t e:TypeId} {p:Addr} {len c:Nat} {k:IntKind} {n:Int} (hu:P.underlying t=some (.slice e)) (hk:bL P e=true) (h0:0≤n) (h1:n<len) :
  (Instr.indexAt t (.slice (some p) len c) (.int k n)).run P w=.ok (.pointer (some (p.add (n.toNat*ap P e)))) w:=by
 unfold Instr.indexAt
 simp only[asIntOf,KH,KZ,KG,Lh hu]
 rw[KT ⟨h0,h1⟩]
 simp only[KH,cV hk,KG,KZ]
theorem pW {t e:TypeId} {p:Addr} {len:Nat} {k:IntKind} {n:Int} (hu:P.underlying t=some (.array len e)) (hk:bL P e=true) (h0:0≤n) (h1:n<len) :
  (Instr.indexAt t (.pointer (some p)) (.int k n)).run P w=.ok (.pointer (some (p.add (n.toNat*ap P e)))) w:=by
 unfold Instr.indexAt
 simp only[asIntOf,KH,KZ,KG,Lh hu,Instr.sureAddr]
 rw[KT ⟨h0,h1⟩]
 simp only[KH,cV hk,KG,KZ]
theorem oG {t:TypeId} {H:List am} (hH:aV S μ w H) {x i d:D} {p:Prop} {ux ui:Value} (hx:ah S μ w x ux) (hi:ah S μ w i ui) (hp:mi P t H x i=(d,p)) (D':p) :
  ∃u,(Instr.indexAt t ux ui).run P w=.ok u w∧ah S μ w d u:=by
 unfold mi at hp
 split at hp
 ·rename_i e sz α enc d' l k n hu
  split at hp
  ·rename_i hc
   simp only[KD,KU]at hc
   obtain⟨hk,rfl⟩:=hc
   simp only[KJ]at hp
   obtain⟨rfl,rfl⟩:=hp
   obtain⟨h0,h1⟩:=D'
   rw[bp hi]
   obtain⟨q,c,rfl,q1,q2,q3,q4⟩:=dY (ba hx)
   obtain⟨b,L',us,rfl,r1,r2,r3,r4,r5⟩:=q4 (by omega)
   refine⟨_,d5 hu hk h0 (by omega),?_⟩
   have hl:l[n.toNat]?=some (l.getD n.toNat d'):=by rw[eX _ _ (by omega)];exact KF (by omega)
   rw[cF]
   have:=ah.iptr (S:=S) (μ:=μ) (w:=w) (enc (l.getD n.toNat d')) 0 b (L'+n.toNat*ap P e) (us n.toNat) r1 r2 (fun j y hy=>by rw[Nat.add_assoc];exact r4 _ _ _ _ hl hy) (fun j y hy=>r5 _ _ _ _ hl hy)
   rwa [Ma]at this
  ·cases hp;exact D'.elim
 ·rename_i e id k n hu
  split at hp
  ·rename_i E sz α enc d' l G'
   split at hp
   ·rename_i hc
    simp only[KD,KU]at hc
    obtain⟨hk,rfl⟩:=hc
    simp only[KJ]at hp
    obtain⟨rfl,rfl⟩:=hp
    obtain⟨h0,h1⟩:=D'
    rw[bp hi,a6 hx]
    obtain⟨q,c,hm,q1,q2,q3,q4⟩:=bv (hH.box id _ G')
    obtain⟨g,rfl⟩:=q4 (by omega)
    rw[hm]
    refine⟨_,d5 hu hk h0 (by omega),?_⟩
    rw[cF,Li]
    have:=ah.ptr (S:=S) (w:=w) id n.toNat (ap P e) 0 g (by rw[hm];rfl:aA (μ id)=some g)
    rwa [Ma]at this
   ·cases hp;exact D'.elim
  ·rename_i E sz α enc d' l G'
   split at hp
   ·rename_i hc
    simp only[KD,KU]at hc
    obtain⟨hk,rfl⟩:=hc
    simp only[KJ]at hp
    obtain⟨rfl,rfl⟩:=hp
    obtain⟨h0,h1⟩:=D'
    rw[bp hi,a6 hx]
    obtain⟨q,c,hm,q1,q2,q3,q4⟩:=bv (hH.box id _ G').ro_arr
    obtain⟨g,rfl⟩:=q4 (by omega)
    rw[hm]
    refine⟨_,d5 hu hk h0 (by omega),?_⟩
    rw[cF,Li]
    have:=ah.ptr (S:=S) (w:=w) id n.toNat (ap P e) 0 g (by rw[hm];rfl:aA (μ id)=some g)
    rwa [Ma]at this
   ·cases hp;exact D'.elim
  ·rename_i E sz m gs cell G'
   split at hp
   ·rename_i hc
    simp only[KD,KU]at hc
    obtain⟨hk,rfl⟩:=hc
    simp only[KJ]at hp
    obtain⟨rfl,rfl⟩:=hp
    obtain⟨h0,h1⟩:=D'
    rw[bp hi,a6 hx]
    obtain⟨q,c,hm,q1,q2,q3,q4⟩:=eu (hH.box id _ G')
    obtain⟨g,rfl⟩:=q4 (by omega)
    rw[hm]
    refine⟨_,d5 hu hk h0 (by omega),?_⟩
    rw[cF,Li]
    have:=ah.ptr (S:=S) (w:=w) id n.toNat (ap P e) 0 g (by rw[hm];rfl:aA (μ id)=some g)
    rwa [Ma]at this
   ·cases hp;exact D'.elim
  ·cases hp;exact D'.elim
 ·rename_i x _ _ _ len e k n hu
  split at hp
  ·rename_i hk
   generalize hq:ra (n.toNat*ap P e) x=q at hp
   obtain⟨y,p'⟩:=q
   simp only[KJ]at hp
   obtain⟨rfl,rfl⟩:=hp
   obtain⟨⟨h0,h1⟩,D'⟩:=D'
   obtain⟨b,o,rfl,hd⟩:=mU hx hq D'
   rw[bp hi]
   exact⟨_,pW hu hk h0 (by omega),by rw[cF];exact hd⟩
  ·cases hp;exact D'.elim
 ·cases hp;exact D'.elim
theorem fb {t:TypeId} {cs:List D} {us:Array Value} {L':Nat} {d:D} {p:Prop} (hs:us.size=cs.length) (h:∀(j:Nat) (y:D) (u:Value),cs[j]?=some y→us[j]?=some u→ah S μ w y u)
  (hp:cu P t cs L'=(d,p)) (D':p):∃u,(part t us L').run P w=.ok u w∧ah S μ w d u:=by
 unfold cu at hp
 split at hp
 ·rename_i hc
  simp only[KD,Lf,LJ,KU]at hc
  obtain⟨⟨hk,hl⟩,hz⟩:=hc
  simp only[KJ]at hp
  obtain⟨rfl,_⟩:=hp
  unfold part
  simp only[KH,tv hk,KG]
  cases ha:tu P t
  ·simp only[Lm,L6]
   rw[ha]at hz
   have Nl:ap P t=1:=by simpa using hz
   have M6:L'<cs.length:=by omega
   have hu:us[L']?=some us[L']:=K0 (by omega)
   refine⟨us[L'],by rw[hu];rfl,?_⟩
   rw[eX _ _ M6]
   exact h L' _ _ (KF M6) hu
  ·simp only[L9]
   refine⟨.agg (us.extract L' (L'+ap P t)),by simp only[KH,cV hk,KG,KZ],.agg _ _ ?_ (fun j y u hy hu=>?_)⟩
   ·simp;omega
   ·rw[K4]at hy
    split at hy
    ·rename_i hj
     rw[LZ]at hy
     rw[Array.getElem?_extract,KT (by omega)]at hu
     exact h _ _ _ hy hu
    ·cases hy
 ·simp only[aG,KJ]at hp
  obtain⟨_,rfl⟩:=hp
  exact D'.elim
theorem dr {cs:List D} {u:Value} (h:ah S μ w (.agg cs) u):∃us:Array Value,u=.agg us∧us.size=cs.length∧∀(j:Nat) (y:D) (u:Value),cs[j]?=some y→us[j]?=some u→ah S μ w y u:=by
 cases h with | agg _ us h1 h2=>exact⟨us,rfl,h1,h2⟩
theorem ql {cs:List D} {u:Value} (h:ah S μ w (.tup cs) u):∃us:Array Value,u=.tuple us∧us.size=cs.length∧∀(j:Nat) (y:D) (u:Value),cs[j]?=some y→us[j]?=some u→ah S μ w y u:=by
 cases h with | tup _ us h1 h2=>exact⟨us,rfl,h1,h2⟩
theorem uV {t:TypeId} {x d:D} {f:Nat} {p:Prop} {ux:Value} (hx:ah S μ w x ux) (hp:xU P t x f=(d,p)) (D':p) :
  ∃u,(Instr.field t ux f).run P w=.ok u w∧ah S μ w d u:=by
 unfold xU at hp
 split at hp
 ·rename_i fs cs hu
  split at hp
  ·rename_i Rk hf
   obtain⟨us,rfl,h1,h2⟩:=dr hx
   obtain⟨u,h3,h4⟩:=fb (P:=P) h1 h2 hp D'
   exact⟨u,by simp only[Instr.field,KH,Lh hu,KG,hf,asAgg,KZ,h3],h4⟩
  ·cases hp;exact D'.elim
 ·cases hp;exact D'.elim
theorem uW {t:TypeId} {x i d:D} {p:Prop} {ux ui:Value} (hx:ah S μ w x ux) (hi:ah S μ w i ui) (hp:xV P t x i=(d,p)) (D':p) :
  ∃u,(Instr.index t ux ui).run P w=.ok u w∧ah S μ w d u:=by
 unfold xV at hp
 split at hp
 ·rename_i len e cs k n hu
  generalize hq:cu P e cs (n.toNat*ap P e)=q at hp
  obtain⟨y,p'⟩:=q
  simp only[KJ]at hp
  obtain⟨rfl,rfl⟩:=hp
  obtain⟨⟨h0,h1⟩,D'⟩:=D'
  rw[bp hi]
  obtain⟨us,rfl,h2,h3⟩:=dr hx
  have hk:bL P e=true:=by
   unfold cu at hq
   split at hq
   ·rename_i hc
    simp only[KD]at hc
    exact hc.1.1
   ·cases hq;exact D'.elim
  obtain⟨u,h4,h5⟩:=fb (P:=P) h2 h3 hq D'
  refine⟨u,?_,h5⟩
  unfold Instr.index
  simp only[asIntOf,KH,KZ,KG,Lh hu]
  rw[KT ⟨h0,h1⟩]
  simp only[KH,cV hk,KG,h4]
 ·rename_i s k n hu
  simp only[KJ]at hp
  obtain⟨rfl,rfl⟩:=hp
  obtain⟨h0,h1⟩:=D'
  rw[bp hi,d4 hx]
  have hn:n.toNat<s.size:=by omega
  have hs:s[n.toNat]?=some s[n.toNat]:=by simp[hn]
  refine⟨.int .u8 (s[n.toNat]).toNat,?_,?_⟩
  ·unfold Instr.index
   simp only[asIntOf,KH,KZ,KG,Lh hu]
   rw[KT h0,hs]
   rfl
  ·rw[hs]
   exact .v _ _ (.int _ _)
 ·cases hp;exact D'.elim
end
def xY (op:BinOp) (k:IntKind) (a b:Int):R1 :=
 match op with
 | .add=>(.v (.int k (k.wrap (a+b))),True)
 | .sub=>(.v (.int k (k.wrap (a-b))),True)
 | .mul=>(.v (.int k (k.wrap (a*b))),True)
 | .quo=>(.v (.int k (k.wrap (a.tdiv b))),b≠0)
 | .rem=>(.v (.int k (a.tmod b)),b≠0)
 | .and=>(.v (.int k (k.wrap (BitVec.ofInt k.bits a &&& BitVec.ofInt k.bits b).toNat)),True)
 | .or=>(.v (.int k (k.wrap (BitVec.ofInt k.bits a ||| BitVec.ofInt k.bits b).toNat)),True)
 | .xor=>(.v (.int k (k.wrap (BitVec.ofInt k.bits a ^^^ BitVec.ofInt k.bits b).toNat)),True)
 | .andNot=>(.v (.int k (k.wrap (BitVec.ofInt k.bits a &&& ~~~(BitVec.ofInt k.bits b)).toNat)),True)
 | .eql=>(.v (.bool (a==b)),True)
 | .neq=>(.v (.bool (a != b)),True)
 | .lss=>(.v (.bool (decide (a<b))),True)
 | .leq=>(.v (.bool (decide (a≤b))),True)
 | .gtr=>(.v (.bool (decide (a>b))),True)
 | .geq=>(.v (.bool (decide (a≥b))),True)
 | _=>aG
def zq:BinOp→Bool | .shl=>true | .shr=>true | _=>false
def xZ (op:BinOp) (k:IntKind) (a b:Int):R1 :=
 match op with
 | .shl=>(.v (.int k (k.wrap (a*2^min b.toNat k.bits))),0≤b)
 | .shr=>(.v (.int k (a.fdiv (2^min b.toNat k.bits))),0≤b)
 | _=>aG
def Gu (op:BinOp) (x y:ByteArray):R1 :=
 match op with
 | .add=>(.v (.str (x++y)),((x.size+y.size:Nat):Int)≤IntKind.i64.max)
 | .eql=>(.v (.bool (x.toList==y.toList)),True)
 | .neq=>(.v (.bool (!(x.toList==y.toList))),True)
 | _=>aG
def Co:Option TypeDesc→D→D→Option Bool
 | some (.int _),.v (.int k a),.v (.int k' b)=>if k==k' then some (a==b)else none
 | some .bool,.v (.bool a),.v (.bool b)=>some (a==b)
 | some .string,.v (.str a),.v (.str b)=>some (a.toList==b.toList)
 | _,_,_=>none
def qn (P:Program) (xs ys:List D) (f:Field):Option Bool :=
 if f.name ≠ "_" then Co (P.underlying f.type) (cu P f.type xs f.offset).1 (cu P f.type ys f.offset).1 else none
def jS (P:Program) (xs ys:List D):List Field→Option Bool
 | []=>some true
 | [f]=>qn P xs ys f
 | f::fs=>match qn P xs ys f,jS P xs ys fs with
  | some a,some b=>some (a&&b)
  | _,_=>none
def tx (P:Program) (t:TypeId):Bool:=match P.underlying t with | some (.struct _)=>true | _=>false
def Ga (P:Program) (op:BinOp) (t:TypeId) (xs ys:List D):R1 :=
 if !P.stoodInHeld t&&!P.eqGuardType P.depth t&&tx P t then
  match jS P xs ys (P.fieldsOf t).toList,op with
  | some b,.eql=>(.v (.bool b),True)
  | some b,.neq=>(.v (.bool (!b)),True)
  | _,_=>aG
 else aG
def Cp:D→Option (Bool×Prop)
 | .nils=>some (true,True)
 | .v .nsl=>some (true,True)
 | .v .esl=>some (false,True)
 | .v (.sl _ _ _ l)=>some (false,l≠[])
 | _=>none
def x4:D→Option Bool
 | .v .nilf=>some true
 | .fn _ _ _=>some false
 | _=>none
def rb (P:Program) (t:TypeId):Bool:=match P.underlying t with | some (.slice _)=>true | _=>false
def uX (P:Program) (t:TypeId):Bool:=match P.underlying t with | some (.func _ _ _)=>true | _=>false
def wk (op:BinOp) (b:Bool) (p:Prop):R1:=match op with
 | .eql=>(.v (.bool b),p)
 | .neq=>(.v (.bool (!b)),p)
 | _=>aG
def Gv (P:Program) (op:BinOp) (t:TypeId) (x y:D):R1 :=
 match x,y with
 | .v (.int k a),.v (.int k' b)=>if zq op then xZ op k a b else if k==k' then xY op k a b else aG
 | .v (.str a),.v (.str b)=>Gu op a b
 | .v (.bool a),.v (.bool b)=>match P.underlying t with
  | some .bool=>(match op with | .eql=>(.v (.bool (a==b)),True) | .neq=>(.v (.bool (!(a==b))),True) | _=>aG)
  | _=>aG
 | .agg xs,.agg ys=>Ga P op t xs ys
 | x,.nils=>match Cp x with
  | some (b,p)=>if rb P t then wk op b p else aG
  | none=>aG
 | x,.v .nilf=>match x4 x with
  | some b=>if uX P t then wk op b True else aG
  | none=>aG
 | _,_=>aG
def I5 (op:UnOp) (x:D):R1 :=
 match op,x with
 | .neg,.v (.int k n)=>(.v (.int k (k.wrap (0-n))),True)
 | .xor,.v (.int k n)=>(.v (.int k (k.wrap (BitVec.ofInt k.bits (if k.signed then -1 else k.max) ^^^ BitVec.ofInt k.bits n).toNat)),True)
 | .not,.v (.bool b)=>(.v (.bool (!b)),True)
 | _,_=>aG
def Cq (P:Program) (src dst:TypeId) (x:D):R1 :=
 if bL P src then
  match P.underlying dst,x with
  | some (.int k),.v (.int _ n)=>(match P.underlying src with | some .string=>aG | _=>(.v (.int k (k.wrap n)),True))
  | some .string,.v (.str s)=>(.v (.str s),True)
  | _,_=>aG
 else aG
def Gw (P:Program) (t:TypeId) (H:List am) (x:D):R1 :=
 match P.underlying t,x with
 | some .string,.v (.str s)=>(.v (.int .i64 (s.size:Int)),True)
 | some (.array n _),_=>(.v (.int .i64 (n:Int)),True)
 | some (.slice _),.v (.sl _ _ _ l)=>(.v (.int .i64 (l.length:Int)),True)
 | some (.slice _),.nils=>(.v (.int .i64 0),True)
 | some (.slice _),.v .nsl=>(.v (.int .i64 0),True)
 | some (.slice _),.v .esl=>(.v (.int .i64 0),True)
 | some (.slice _),.own id=>match H[id]? with
  | some (.arr _ _ _ _ l)=>(.v (.int .i64 (l.length:Int)),True)
  | some (.ro _ _ _ _ l)=>(.v (.int .i64 (l.length:Int)),True)
  | some (.arrD _ _ m _ _)=>(.v (.int .i64 (m:Int)),True)
  | _=>aG
 | _,_=>aG
def wm (x y:Int):Int:=if y<x then y else x
def Gx (x y:Int):Int:=if y>x then y else x
section
variable {P:Program} {S:Nat→Prop} {μ:Nat→Value} {w:World}
def IU (n:Nat) (hi:Option Value) (h:Nat):Prop:=match hi with | none=>h=n | some v=>∃k,v=.int k h
def Hy (lo:Option Value) (l:Nat):Prop:=match lo with | none=>l=0 | some v=>∃k,v=.int k l
theorem fC {is:Bool} {n c l h:Nat} {lo hi:Option Value} (hh:IU n hi h) (hl:Hy lo l) (h1:l≤h) (h2:h≤c) :
  (Instr.sliceBounds is n c lo hi none).run P w=.ok (l,h,c) w:=by
 have sb:∀(k:IntKind) (x y:Nat) (P2:BoundsCode),x≤y→(Instr.sliceBound (.int k (x:Int)) y P2).run P w=.ok x w:=by
  intro k x y P2 Px
  unfold Instr.sliceBound
  simp only[asIntOf,KH,KZ,KG]
  rw[KT ⟨by omega,by omega⟩]
  simp
 unfold Instr.sliceBounds
 cases hi with
 | none =>
  simp only[IU]at hh
  subst hh
  cases lo with
  | none =>
   simp only[Hy]at hl
   subst hl
   simp[KH]
  | some v =>
   obtain⟨k,rfl⟩:=hl
   simp[KH,sb _ _ _ _ h1]
 | some v =>
  obtain⟨k,rfl⟩:=hh
  cases lo with
  | none =>
   simp only[Hy]at hl
   subst hl
   simp[KH,sb _ _ _ _ h2]
  | some v =>
   obtain⟨k,rfl⟩:=hl
   simp[KH,sb _ _ _ _ h2,sb _ _ _ _ h1]
def mV (S:Nat→Prop) (μ:Nat→Value) (w:World):Option D→Option Value→Prop
 | none,none=>True
 | some d,some u=>ah S μ w d u
 | _,_=>False
theorem rc {d:D} (h:xW d=true):∃k n,d=.v (.int k n)∧ES d=n:=by
 unfold xW at h
 split at h
 ·exact⟨_,_,rfl,rfl⟩
 ·cases h
theorem x5 {lo:Option D} {ul:Option Value} (h:mV S μ w lo ul) (hi:uS lo=true) (h0:0≤mj lo):Hy ul (mj lo).toNat:=by
 cases lo with
 | none=>cases ul with
  | none=>simp[Hy,mj]
  | some _=>exact h.elim
 | some d=>cases ul with
  | none=>exact h.elim
  | some u =>
   obtain⟨k,n,rfl,hn⟩:=rc hi
   simp only[mj]at h0 ⊢
   rw[hn]at h0 ⊢
   rw[bp h]
   exact⟨k,by rw[Int.toNat_of_nonneg h0]⟩
theorem x6 {hi:Option D} {uh:Option Value} {n:Nat} (h:mV S μ w hi uh) (NK:uS hi=true) (h0:0≤fI n hi):IU n uh (fI n hi).toNat:=by
 cases hi with
 | none=>cases uh with
  | none=>simp[IU,fI]
  | some _=>exact h.elim
 | some d=>cases uh with
  | none=>exact h.elim
  | some u =>
   obtain⟨k,m,rfl,hn⟩:=rc NK
   simp only[fI]at h0 ⊢
   rw[hn]at h0 ⊢
   rw[bp h]
   exact⟨k,by rw[Int.toNat_of_nonneg h0]⟩
theorem tz {α:Type} (l:List α) (hi:Option D) (h:fI l.length hi≤l.length):uT l hi=l.take (fI l.length hi).toNat:=by
 cases hi with
 | none=>simp[uT,fI]
 | some d=>rfl
theorem s7 {t:TypeId} {x d:D} {lo hi mx:Option D} {p:Prop} {ux:Value} {ul uh um:Option Value} (hx:ah S μ w x ux) (hl:mV S μ w lo ul) (hh:mV S μ w hi uh) (hm:mV S μ w mx um)
  (hp:uU P t x lo hi mx=(d,p)) (D':p):∃u,(Instr.sliceAt t ux ul uh um).run P w=.ok u w∧ah S μ w d u:=by
 unfold uU at hp
 split at hp
 ·rename_i e sz α enc d' l k1 h' k2 h hu
  split at hp
  ·rename_i hc
   simp only[KD,KU]at hc
   obtain⟨hk,rfl⟩:=hc
   simp only[KJ]at hp
   obtain⟨rfl,rfl⟩:=hp
   obtain⟨h0,h1,rfl⟩:=D'
   obtain⟨q,c,rfl,q1,q2,q3,q4⟩:=dY (ba hx)
   have hul:ul=none:=by cases ul with | none=>rfl | some _=>exact hl.elim
   subst hul
   cases uh with
   | none=>exact hh.elim
   | some vh =>
    cases um with
    | none=>exact hm.elim
    | some vm =>
     have ev:vh=.int k1 h:=by
      have:=ba hh
      cases this
      rfl
     have em:vm=.int k2 h:=by
      have:=ba hm
      cases this
      rfl
     subst ev em
     have sb:∀(k:IntKind) (y:Nat) (P2:BoundsCode),h.toNat≤y→(Instr.sliceBound (.int k h) y P2).run P w=.ok h.toNat w:=by
      intro k y P2 Px
      unfold Instr.sliceBound
      simp only[asIntOf,KH,KZ,KG]
      rw[KT ⟨by omega,by omega⟩]
      simp
     have hr:(Instr.sliceBounds true l.length c none (some (.int k1 h)) (some (.int k2 h))).run P w=.ok (0,h.toNat,h.toNat) w:=by
      unfold Instr.sliceBounds
      simp[KH,sb k2 c _ (by omega),sb k1 h.toNat _ (KI _)]
     refine⟨.slice (if h.toNat=0 then q else q.map (·.add (0*ap P e))) h.toNat h.toNat,?_,.capd _ _ _ (jR ?_ (by rw[KV];omega) (by omega) ?_ (fun P6=>?_))⟩
     ·unfold Instr.sliceAt
      simp only[KH,Lh hu,KG]
      unfold Instr.slice
      simp only[KH,Lh hu,KG,hr,cV hk,KZ,Nat.sub_zero]
     ·rw[KV];omega
     ·intro hn
      by_cases hca:h.toNat=0
      ·exact hca
      ·rw[KK hca]at hn
       have:=q3 (by simpa using hn)
       omega
     ·rw[KV]at P6
      obtain⟨bb,L',us,rfl,r1,r2,r3,r4,r5⟩:=q4 (by omega)
      have Nh:∀(i:Nat) (x:α),(l.take h.toNat)[i]?=some x→l[i]?=some x:=by
       intro i x hx
       rw[K4]at hx
       split at hx
       ·exact hx
       ·cases hx
      refine⟨bb,L',us,?_,r1,r2,fun i x hx=>r3 _ x (Nh i x hx),fun i x j y hx hy=>r4 _ x j y (Nh i x hx) hy,fun i x j y hx hy=>r5 _ x j y (Nh i x hx) hy⟩
      rw[KK (by omega)]
      simp[cF]
  ·cases hp;exact D'.elim
 ·cases hp;exact D'.elim
theorem zr:∀{cs:List V} {k:IntKind} {l:List Int},oD cs=some (k,l)→cs=l.map (fun x=>.int k x)
 | [],k,l,h=>by simp[oD]at h
 | [.int k0 n],k,l,h=>by simp[oD]at h;obtain⟨rfl,rfl⟩:=h;rfl
 | .int k0 n::y::r,k,l,h=>by
  unfold oD at h
  ·split at h
   ·rename_i k' l' hr
    split at h
    ·rename_i hk
     have hk:k0=k':=by simpa using hk
     cases h
     have:=zr hr
     subst hk
     rw[this];rfl
    ·cases h
   ·cases h
 | .bool _::_,_,_,h=>by simp[oD]at h
 | .str _::_,_,_,h=>by simp[oD]at h
 | .sl _ _ _ _::_,_,_,h=>by simp[oD]at h
 | .mp _::_,_,_,h=>by simp[oD]at h
 | .nilf::_,_,_,h=>by simp[oD]at h
 | .nsl::_,_,_,h=>by simp[oD]at h
 | .esl::_,_,_,h=>by simp[oD]at h
theorem uY {t:TypeId} {x d:D} {lo hi mx:Option D} {p:Prop} {ux:Value} {ul uh um:Option Value} (hx:ah S μ w x ux) (hl:mV S μ w lo ul) (hh:mV S μ w hi uh) (hm:mV S μ w mx um)
  (hp:xX P t x lo hi mx=(d,p)) (D':p):∃u,(Instr.sliceAt t ux ul uh um).run P w=.ok u w∧ah S μ w d u:=by
 unfold xX at hp
 split at hp
 ·exact s7 hx hl hh hm hp D'
 split at hp
 ·rename_i hc
  simp only[KD]at hc
  obtain⟨⟨c1,c2⟩,c3⟩:=hc
  have hmx:mx=none:=by simpa using c3
  subst hmx
  have hum:um=none:=by cases um with | none=>rfl | some _=>exact hm.elim
  subst hum
  split at hp
  ·rename_i e sz α enc d' l hu
   split at hp
   ·rename_i hc
    simp only[KD,KU]at hc
    obtain⟨hk,rfl⟩:=hc
    simp only[KJ]at hp
    obtain⟨rfl,rfl⟩:=hp
    obtain⟨h0,h1,h2⟩:=D'
    obtain⟨q,c,rfl,q1,q2,q3,q4⟩:=dY (ba hx)
    have hr:=fC (P:=P) (w:=w) (is:=true) (c:=c) (x6 (n:=l.length) hh c2 (by omega)) (x5 hl c1 h0) (by omega) (by omega)
    rw[tz _ _ h2]
    generalize hLo:(mj lo).toNat=a at *
    generalize hHi:(fI l.length hi).toNat=b at *
    have hab:a≤b:=by omega
    have hbl:b≤l.length:=by omega
    refine⟨.slice (if c=a then q else q.map (·.add (a*ap P e))) (b-a) (c-a),?_,.v _ _ (jR ?_ ?_ (by omega) ?_ (fun P6=>?_))⟩
    ·unfold Instr.sliceAt
     simp only[KH,Lh hu,KG]
     unfold Instr.slice
     simp only[KH,Lh hu,KG,hr,cV hk,KZ]
    ·rw[K7,KV];omega
    ·rw[K7,KV];omega
    ·intro hn
     by_cases hca:c=a
     ·omega
     ·rw[KK hca]at hn
      have:=q3 (by simpa using hn)
      omega
    ·rw[K7,KV]at P6
     obtain⟨bb,L',us,rfl,r1,r2,r3,r4,r5⟩:=q4 (by omega)
     have Nh:∀(i:Nat) (x:α),((l.take b).drop a)[i]?=some x→l[a+i]?=some x:=by
      intro i x hx
      rw[LZ,K4]at hx
      split at hx
      ·exact hx
      ·cases hx
     refine⟨bb,L'+a*ap P e,fun i j=>us (a+i) j,?_,r1,r2,fun i x hx=>r3 _ x (Nh i x hx),fun i x j y hx hy=>?_,fun i x j y hx hy=>r5 _ x j y (Nh i x hx) hy⟩
     ·rw[KK (by omega)]
      simp[cF]
     ·have:=r4 (a+i) x j y (Nh i x hx) hy
      rw[← this]
      congr 2
      rw[MA]
      omega
   ·cases hp;exact D'.elim
  ·rename_i s hu
   simp only[KJ]at hp
   obtain⟨rfl,rfl⟩:=hp
   obtain⟨h0,h1,h2⟩:=D'
   rw[d4 hx]
   have hr:=fC (P:=P) (w:=w) (is:=false) (c:=s.size) (x6 (n:=s.size) hh c2 (by omega)) (x5 hl c1 h0) (by omega) (by omega)
   refine⟨_,?_,.v _ _ (.str _)⟩
   unfold Instr.sliceAt
   simp only[KH,Lh hu,KG]
   unfold Instr.slice
   simp only[KH,Lh hu,KG,hr,Option.isSome_none,Lm,L6,KZ]
  ·rename_i n e cs L' hu
   split at hp
   ·rename_i k l Ng
    split at hp
    ·rename_i hc
     simp only[KD,KU,LJ]at hc
     obtain⟨⟨⟨⟨hk,M0⟩,hln⟩,rfl⟩,hmx⟩:=hc
     simp only[KJ]at hp
     obtain⟨rfl,rfl⟩:=hp
     obtain⟨h0,h1,h2⟩:=D'
     have hcs:=zr Ng
     subst hcs
     subst hln
     obtain⟨b,o,rfl,q2⟩:∃b o,ux=.pointer (some ⟨b,o+0,none⟩)∧ah S μ w (.iptr (l.map (fun x=>.int k x)) 0) ux:=by
      cases hx with
      | iptr _ _ b o us g1 g2 g3 g4=>exact⟨b,o,rfl,.iptr _ _ b o us g1 g2 g3 g4⟩
     have hr:=fC (P:=P) (w:=w) (is:=false) (c:=l.length) (x6 (n:=l.length) hh c2 (by omega)) (x5 hl c1 h0) (by omega) (by omega)
     rw[tz _ _ h2]
     generalize hLo:(mj lo).toNat=a at *
     generalize hHi:(fI l.length hi).toNat=c at *
     have hab:a≤c:=by omega
     have hbl:c≤l.length:=by omega
     have hq:∃(b' o':Nat) (us:Nat→Value),(⟨b,o+0,none⟩:Addr)=⟨b',o'+0,none⟩∧S b'∧b'<w.heap.size∧(∀(j:Nat) (y:V),(l.map (fun x=>V.int k x))[j]?=some y→w.cell? ⟨b',o'+j,none⟩=some (us j))∧(∀(j:Nat) (y:V),(l.map (fun x=>V.int k x))[j]?=some y→ci S w y (us j)):=by
      generalize hd:D.iptr (l.map (fun x=>.int k x)) 0=dd at q2
      generalize hv:Value.pointer (some ⟨b,o+0,none⟩)=vv at q2
      cases q2 with
      | iptr Sl off' b' o' us g1 g2 g3 g4 =>
       cases hd
       simp only[Value.pointer.injEq,KP]at hv
       exact⟨b',o',us,hv,g1,g2,g3,g4⟩
      | _=>cases hd
     obtain⟨b',o',us,he,g1,g2,g3,g4⟩:=hq
     rw[he]
     refine⟨.slice (some (if l.length=a then ⟨b',o'+0,none⟩else (⟨b',o'+0,none⟩:Addr).add (a*ap P e))) (c-a) (l.length-a),?_,.v _ _ (jR ?_ ?_ (by omega) (by intro h;cases h) (fun P6=>?_))⟩
     ·unfold Instr.sliceAt
      simp only[KH,Lh hu,KG,Instr.sureAddr,KZ,hr,cV hk]
     ·rw[K7,KV];omega
     ·rw[K7,KV];omega
     ·rw[K7,KV]at P6
      have Nh:∀(i:Nat) (x:Int),((l.take c).drop a)[i]?=some x→l[a+i]?=some x:=by
       intro i x hx
       rw[LZ,K4]at hx
       split at hx
       ·exact hx
       ·cases hx
      refine⟨b',o'+a,fun i j=>us (a+i),?_,g1,g2,fun i x _=>rfl,fun i x j y hx hy=>?_,fun i x j y hx hy=>?_⟩
      ·rw[KK (by omega),M0]
       simp[cF]
      ·have hj:j=0∧y=.int k x:=by
        cases j with
        | zero=>exact⟨rfl,by simpa using hy.symm⟩
        | succ j=>simp at hy
       obtain⟨rfl,rfl⟩:=hj
       have:=g3 (a+i) (.int k x) (by rw[KX,Nh i x hx];rfl)
       rw[← this]
       congr 2
       omega
      ·have hj:y=.int k x:=by
        cases j with
        | zero=>simpa using hy.symm
        | succ j=>simp at hy
       subst hj
       exact g4 (a+i) _ (by rw[KX,Nh i x hx];rfl)
    ·cases hp;exact D'.elim
   ·cases hp;exact D'.elim
  ·cases hp;exact D'.elim
 ·cases hp;exact D'.elim
theorem A6 {op:BinOp} {k:IntKind} {a b:Int} {d:D} {p:Prop} (hs:zq op=false) (hp:xY op k a b=(d,p)) (D':p) (t:TypeId) :
  ∃u,(binOp op t (.int k a) (.int k b)).run P w=.ok u w∧ah S μ w d u:=by
 unfold xY at hp
 cases op<;>simp only[aG,KJ]at hp<;>obtain⟨rfl,rfl⟩:=hp <;>
  first
  | exact D'.elim
  | (refine⟨_,?_,.v _ _ (.int _ _)⟩;simp only[binOp,Op.intArith,Op.intDiv,Op.intBits,ne_eq,not_true_eq_false,L6,KZ];done)
  | (refine⟨_,?_,.v _ _ (.int _ _)⟩;simp only[binOp,Op.intDiv,ne_eq,not_true_eq_false,L6];rw[KK D'];rfl)
  | (refine⟨_,?_,.v _ _ (.bool _)⟩;simp only[binOp,Op.intCmp,ne_eq,not_true_eq_false,L6,KZ];done)
theorem x7 {op:BinOp} {k k':IntKind} {a b:Int} {d:D} {p:Prop} (hp:xZ op k a b=(d,p)) (D':p) (t:TypeId) :
  ∃u,(binOp op t (.int k a) (.int k' b)).run P w=.ok u w∧ah S μ w d u:=by
 unfold xZ at hp
 cases op<;>simp only[aG,KJ]at hp<;>obtain⟨rfl,rfl⟩:=hp <;>
  first
  | exact D'.elim
  | (refine⟨_,?_,.v _ _ (.int _ _)⟩;simp only[binOp,Op.shift];rw[KK (by omega)];rfl)
theorem Cr {op:BinOp} {a b:ByteArray} {d:D} {p:Prop} (hp:Gu op a b=(d,p)) (D':p) (t:TypeId) :
  ∃u,(binOp op t (.string a) (.string b)).run P w=.ok u w∧ah S μ w d u:=by
 unfold Gu at hp
 cases op<;>simp only[aG,KJ]at hp<;>obtain⟨rfl,rfl⟩:=hp <;>
  first
  | exact D'.elim
  | (refine⟨_,?_,.v _ _ (.bool _)⟩;simp only[binOp,Op.stringOp];rfl)
  | (refine⟨_,?_,.v _ _ (.str _)⟩;simp only[binOp,Op.stringOp];rw[KK (by omega)];rfl)
theorem cW {op:BinOp} {t:TypeId} {x y:Operand} {a b:Value} (h:∀us,a≠.agg us) (h':a≠.nilIface):(eqGuard op t x y a b).run P w=.ok () w:=by
 unfold eqGuard
 cases a<;>first | exact absurd rfl h' | exact absurd rfl (h _) | (split<;>rfl)
theorem fQ {t:TypeId} {cs:List D} {L':Nat} {x:V} (h:(cu P t cs L').1=.v x):cu P t cs L'=(.v x,True):=by
 unfold cu at h ⊢
 split
 ·rename_i hc;rw[KT hc]at h;exact Prod.ext h rfl
 ·rename_i hc;rw[KK hc]at h;cases h
theorem lQ {xs ys:List D} {us vs:Array Value} (hx:us.size=xs.length∧∀(j:Nat) (y:D) (u:Value),xs[j]?=some y→us[j]?=some u→ah S μ w y u) (hy:vs.size=ys.length∧∀(j:Nat) (y:D) (u:Value),ys[j]?=some y→vs[j]?=some u→ah S μ w y u)
  {f:Field} {b:Bool} (h:qn P xs ys f=some b) (d:Nat):f.name ≠ "_" ∧ ∃u v,(part f.type us f.offset).run P w=.ok u w∧(part f.type vs f.offset).run P w=.ok v w∧(Op.equalIn (d+1) f.type u v).run P w=.ok b w:=by
 unfold qn at h
 split at h
 ·rename_i hn
  refine⟨hn,?_⟩
  unfold Co at h
  split at h
  ·rename_i k0 k a k' c hu h1 h2
   obtain⟨u,Rl,N2⟩:=fb hx.1 hx.2 (fQ h1) trivial
   obtain⟨v,OA,Pf⟩:=fb hy.1 hy.2 (fQ h2) trivial
   rw[bp N2]at Rl;rw[bp Pf]at OA
   split at h
   ·rename_i hk
    have NH:k=k':=by simpa using hk
    subst NH
    cases h
    exact⟨_,_,Rl,OA,run_equalIn_int w d f.type k k0 a c hu⟩
   ·cases h
  ·rename_i a c hu h1 h2
   obtain⟨u,Rl,N2⟩:=fb hx.1 hx.2 (fQ h1) trivial
   obtain⟨v,OA,Pf⟩:=fb hy.1 hy.2 (fQ h2) trivial
   rw[dZ N2]at Rl;rw[dZ Pf]at OA
   cases h
   exact⟨_,_,Rl,OA,run_equalIn_bool' w d f.type a c hu⟩
  ·rename_i a c hu h1 h2
   obtain⟨u,Rl,N2⟩:=fb hx.1 hx.2 (fQ h1) trivial
   obtain⟨v,OA,Pf⟩:=fb hy.1 hy.2 (fQ h2) trivial
   rw[d4 N2]at Rl;rw[d4 Pf]at OA
   cases h
   exact⟨_,_,Rl,OA,run_equalIn_string w d f.type a c hu⟩
  ·cases h
 ·cases h
theorem jT {xs ys:List D} {us vs:Array Value} (hx:us.size=xs.length∧∀(j:Nat) (y:D) (u:Value),xs[j]?=some y→us[j]?=some u→ah S μ w y u) (hy:vs.size=ys.length∧∀(j:Nat) (y:D) (u:Value),ys[j]?=some y→vs[j]?=some u→ah S μ w y u) (d:Nat) :
  ∀(fs:List Field) (b:Bool),jS P xs ys fs=some b→(Op.eqFields (d+1) us vs fs).run P w=.ok b w
 | [],b,h=>by cases h;simp[Op.eqFields]
 | [f],b,h=>by
  obtain⟨hn,u,v,h1,h2,h3⟩:=lQ hx hy h d
  cases b<;>simp[Op.eqFields,hn,KH,h1,h2,h3]
 | f::g::fs,b,h=>by
  unfold jS at h
  split at h
  ·rename_i a c ha hc
   cases h
   obtain⟨hn,u,v,h1,h2,h3⟩:=lQ hx hy ha d
   have ih:=jT hx hy d (g::fs) c hc
   unfold Op.eqFields
   cases a
   ·simp[hn,KH,h1,h2,h3]
   ·simp only[ne_eq,hn,not_false_eq_true,L9,KH,h1,h2,h3,KG,Bool.not_true,Lm,L6,L0]
    exact ih
  ·cases h
theorem uZ {t:TypeId} (h:rb P t=true):∃e,P.underlying t=some (.slice e):=by
 unfold rb at h
 split at h
 ·exact⟨_,by assumption⟩
 ·cases h
theorem wn {t:TypeId} (h:uX P t=true):∃a b c,P.underlying t=some (.func a b c):=by
 unfold uX at h
 split at h
 ·exact⟨_,_,_,by assumption⟩
 ·cases h
theorem wo {x:D} {ux:Value} {b:Bool} {q:Prop} (hx:ah S μ w x ux) (hq:Cp x=some (b,q)) (h:q):∃r n c,ux=.slice r n c∧r.isNone=b:=by
 unfold Cp at hq
 split at hq
 ·cases hq;cases hx;exact⟨_,_,_,rfl,rfl⟩
 ·cases hq;have hx:=ba hx;cases hx;exact⟨_,_,_,rfl,rfl⟩
 ·cases hq;have hx:=ba hx;cases hx;exact⟨_,_,_,rfl,rfl⟩
 ·rename_i sz α enc d l
  cases hq
  obtain⟨p,c,rfl,_,_,_,h4⟩:=dY (ba hx)
  obtain⟨b,L',us,rfl,_⟩:=h4 (List.length_pos_iff.2 h)
  exact⟨_,_,_,rfl,rfl⟩
 ·cases hq
theorem u1 {x:D} {ux:Value} {b:Bool} (hx:ah S μ w x ux) (hq:x4 x=some b):(b=true∧ux=.nilFunc)∨(b=false∧∃f us vs,ux=.func f us vs):=by
 unfold x4 at hq
 split at hq
 ·cases hq;have hx:=ba hx;cases hx;exact .inl ⟨rfl,rfl⟩
 ·cases hq;cases hx;exact .inr ⟨rfl,_,_,_,rfl⟩
 ·cases hq
theorem oH {op:BinOp} {t:TypeId} {b:Bool} {q p:Prop} {d:D} {ux uy:Value} (hp:wk op b q=(d,p)) (D':p) (he:(Op.equal t ux uy).run P w=.ok b w) (hx:∀k n,ux≠.int k n:=by intros;intro h;cases h) (hf:∀k n,ux≠.float k n:=by intros;intro h;cases h)
  (hc:∀k a b,ux≠.complex k a b:=by intros;intro h;cases h) (hs:∀s,ux≠.string s:=by intros;intro h;cases h):∃u,(binOp op t ux uy).run P w=.ok u w∧ah S μ w d u:=by
 unfold wk at hp
 split at hp
 ·cases hp
  refine⟨.bool b,?_,.v _ _ (.bool _)⟩
  unfold binOp
  cases ux<;>first | exact absurd rfl (hx _ _) | exact absurd rfl (hf _ _) | exact absurd rfl (hc _ _ _) | exact absurd rfl (hs _) | simp only[KH,he,KG,KZ]
 ·cases hp
  refine⟨.bool (!b),?_,.v _ _ (.bool _)⟩
  unfold binOp
  cases ux<;>first | exact absurd rfl (hx _ _) | exact absurd rfl (hf _ _) | exact absurd rfl (hc _ _ _) | exact absurd rfl (hs _) | simp only[KH,he,KG,KZ]
 ·cases hp;exact D'.elim
theorem x8 {op:BinOp} {t:TypeId} {x y d:D} {p:Prop} {ux uy:Value} (ox oy:Operand) (hx:ah S μ w x ux) (hy:ah S μ w y uy) (hp:Gv P op t x y=(d,p)) (D':p) :
  ∃u,(do eqGuard op t ox oy ux uy;binOp op t ux uy:Sem Value).run P w=.ok u w∧ah S μ w d u:=by
 unfold Gv at hp
 split at hp
 ·rename_i k a k' b
  rw[bp hx,bp hy]
  simp only[KH,cW (P:=P) (w:=w) (a:=.int k a) (fun _ h=>by cases h) (fun h=>by cases h),KG]
  split at hp
  ·exact x7 hp D' t
  ·rename_i hs
   split at hp
   ·rename_i hk
    have:k=k':=by simpa using hk
    subst this
    exact A6 (by simpa using hs) hp D' t
   ·cases hp;exact D'.elim
 ·rename_i a b
  rw[d4 hx,d4 hy]
  simp only[KH,cW (P:=P) (w:=w) (a:=.string a) (fun _ h=>by cases h) (fun h=>by cases h),KG]
  exact Cr hp D' t
 ·rename_i a b
  rw[dZ hx,dZ hy]
  simp only[KH,cW (P:=P) (w:=w) (a:=.bool a) (fun _ h=>by cases h) (fun h=>by cases h),KG]
  split at hp
  ·rename_i hu
   have he:(Op.equal t (.bool a) (.bool b)).run P w=.ok (a==b) w:=by
    unfold Op.equal
    rw[show Op.maxDepth=9999+1 from rfl,Op.equalIn]
    simp only[KH,Lh hu,KG,KZ]
   cases op<;>simp only[aG,KJ]at hp<;>obtain⟨rfl,rfl⟩:=hp <;>
    first
    | exact D'.elim
    | (refine⟨_,?_,.v _ _ (.bool _)⟩;simp only[binOp,KH,he,KG,KZ])
  ·cases hp;exact D'.elim
 ·rename_i xs ys
  obtain⟨us,rfl,Pk,P7⟩:=dr hx
  obtain⟨vs,rfl,hy1,hy2⟩:=dr hy
  unfold Ga at hp
  split at hp
  ·rename_i hc
   simp only[KD,K5]at hc
   obtain⟨⟨hs,hg⟩,ht⟩:=hc
   have hu:P.underlying t=some (.struct (P.fieldsOf t)):=by
    unfold tx at ht
    unfold Program.fieldsOf
    split at ht
    ·rename_i fs hfs;rw[hfs]
    ·cases ht
   have he:∀b,jS P xs ys (P.fieldsOf t).toList=some b→(Op.equalIn 10000 t (.agg us) (.agg vs)).run P w=.ok b w:=fun b hb=>by
    rw[show(10000:Nat)=9999+1 from rfl,run_equalIn_agg w 9999 t us vs hu hs]
    exact jT ⟨Pk,P7⟩ ⟨hy1,hy2⟩ 9998 _ b hb
   simp only[KH,run_eqGuard_agg (P:=P) w op t ox oy us vs hg,KG]
   split at hp
   ·rename_i b hb
    cases hp
    exact⟨_,by rw[run_eql_struct,he b hb,KG],.v _ _ (.bool _)⟩
   ·rename_i b hb
    cases hp
    exact⟨_,by rw[run_neq_struct,he b hb,KG],.v _ _ (.bool _)⟩
   ·cases hp;exact D'.elim
  ·cases hp;exact D'.elim
 ·cases hy
  split at hp
  ·rename_i b q hq
   split at hp
   ·rename_i ht
    obtain⟨e,he⟩:=uZ ht
    have hob':q:=by
     unfold wk at hp
     split at hp<;>cases hp<;>first | exact D' | exact D'.elim
    obtain⟨r,n,c,rfl,hr⟩:=wo hx hq hob'
    simp only[KH,cW (P:=P) (w:=w) (a:=.slice r n c) (fun _ h=>by cases h) (fun h=>by cases h),KG]
    have RH:(Op.equal t (.slice r n c) (.slice none 0 0)).run P w=.ok b w:=by
     unfold Op.equal
     rw[show Op.maxDepth=9999+1 from rfl,Op.equalIn]
     simp only[KH,Lh he,KG]
     cases r<;>simp at hr<;>subst hr<;>rfl
    exact oH hp D' RH
   ·cases hp;exact D'.elim
  ·cases hp;exact D'.elim
 ·have hy2:=ba hy
  cases hy2
  split at hp
  ·rename_i b hq
   split at hp
   ·rename_i ht
    obtain⟨e1,e2,e3,he⟩:=wn ht
    have hu:(b=true∧ux=.nilFunc)∨(b=false∧∃f us vs,ux=.func f us vs):=u1 hx hq
    have RH:(Op.equal t ux .nilFunc).run P w=.ok b w:=by
     unfold Op.equal
     rw[show Op.maxDepth=9999+1 from rfl,Op.equalIn]
     simp only[KH,Lh he,KG]
     rcases hu with ⟨rfl,rfl⟩ | ⟨rfl,f,us,vs,rfl⟩<;>rfl
    rw[KH,cW (P:=P) (w:=w) (a:=ux) (fun _ h=>by rcases hu with ⟨_,rfl⟩ | ⟨_,f,us,vs,rfl⟩<;>cases h) (fun h=>by rcases hu with ⟨_,rfl⟩ | ⟨_,f,us,vs,rfl⟩<;>cases h),KG]
    rcases hu with ⟨h1,rfl⟩ | ⟨h1,f,us,vs,rfl⟩
    ·exact oH hp D' RH
    ·exact oH hp D' RH
   ·cases hp;exact D'.elim
  ·cases hp;exact D'.elim
 ·cases hp;exact D'.elim
theorem A7 {op:UnOp} {x d:D} {p:Prop} {ux:Value} (hx:ah S μ w x ux) (hp:I5 op x=(d,p)) (D':p) :
  ∃u,(Op.unary op ux).run P w=.ok u w∧ah S μ w d u:=by
 unfold I5 at hp
 split at hp
 ·cases hp;rw[bp hx];exact⟨_,rfl,.v _ _ (.int _ _)⟩
 ·cases hp;rw[bp hx];exact⟨_,rfl,.v _ _ (.int _ _)⟩
 ·cases hp;rw[dZ hx];exact⟨_,rfl,.v _ _ (.bool _)⟩
 ·cases hp;exact D'.elim
theorem wp {src dst:TypeId} {x d:D} {p:Prop} {ux:Value} (hx:ah S μ w x ux) (hp:Cq P src dst x=(d,p)) (D':p) :
  ∃u,(convert src dst ux).run P w=.ok u w∧ah S μ w d u:=by
 unfold Cq at hp
 split at hp
 ·rename_i hk
  unfold bL at hk
  simp only[KD,Option.isSome_iff_exists]at hk
  obtain⟨_,s,hs⟩:=hk
  split at hp
  ·rename_i k k' n hd
   rw[bp hx]
   split at hp
   ·cases hp;exact D'.elim
   ·cases hp
    refine⟨_,?_,.v _ _ (.int _ _)⟩
    unfold convert
    simp only[KH,Lh hs,Lh hd,KG,Conv.intToInt]
    rfl
  ·rename_i s' hd
   cases hp
   rw[d4 hx]
   refine⟨_,?_,.v _ _ (.str _)⟩
   unfold convert
   simp only[KH,Lh hs,Lh hd,KG]
   rfl
  ·cases hp;exact D'.elim
 ·cases hp;exact D'.elim
theorem x9 {t ty:TypeId} {H:List am} (hH:aV S μ w H) {x d:D} {p:Prop} {ux:Value} (hx:ah S μ w x ux) (hp:Gw P t H x=(d,p)) (D':p) :
  ∃u,(Builtin.len_ #[t] ty #[ux]).run P w=.ok u w∧ah S μ w d u:=by
 have sl:∀(e:TypeId) (q:Option Addr) (n c:Nat),P.underlying t=some (.slice e)→(Builtin.len_ #[t] ty #[.slice q n c]).run P w=.ok (.int .i64 n) w:=by
  intro e q n c hu
  simp[Builtin.len_,KH,Lh hu,goInt]
 unfold Gw at hp
 split at hp
 ·rename_i s hu
  cases hp
  rw[d4 hx]
  exact⟨_,by simp[Builtin.len_,KH,Lh hu,goInt],.v _ _ (.int _ _)⟩
 ·rename_i n e hu
  cases hp
  exact⟨_,by simp[Builtin.len_,KH,Lh hu,goInt],.v _ _ (.int _ _)⟩
 ·rename_i e sz α enc d' l hu
  cases hp
  obtain⟨q,c,rfl,_⟩:=dY (ba hx)
  exact⟨_,sl _ _ _ _ hu,.v _ _ (.int _ _)⟩
 ·rename_i e hu
  cases hp
  cases hx
  exact⟨_,sl _ _ _ _ hu,.v _ _ (.int _ _)⟩
 ·rename_i e hu
  cases hp
  have hx:=ba hx
  cases hx
  exact⟨_,sl _ _ _ _ hu,.v _ _ (.int _ _)⟩
 ·rename_i e hu
  cases hp
  have hx:=ba hx
  cases hx
  exact⟨_,sl _ _ _ _ hu,.v _ _ (.int _ _)⟩
 ·rename_i e id hu
  split at hp
  ·rename_i E sz α enc d' l hb
   cases hp
   rw[a6 hx]
   obtain⟨q,c,hm,_⟩:=bv (hH.box id _ hb)
   rw[hm]
   exact⟨_,sl _ _ _ _ hu,.v _ _ (.int _ _)⟩
  ·rename_i E sz α enc d' l hb
   cases hp
   rw[a6 hx]
   obtain⟨q,c,hm,_⟩:=bv (hH.box id _ hb).ro_arr
   rw[hm]
   exact⟨_,sl _ _ _ _ hu,.v _ _ (.int _ _)⟩
  ·rename_i E sz m gs cell hb
   cases hp
   rw[a6 hx]
   obtain⟨q,c,hm,_⟩:=eu (hH.box id _ hb)
   rw[hm]
   exact⟨_,sl _ _ _ _ hu,.v _ _ (.int _ _)⟩
  ·cases hp;exact D'.elim
 ·cases hp;exact D'.elim
end
def ij (H:List am):D→Option (List D)
 | .agg cs=>some cs
 | .tup _=>none
 | .junk=>none
 | .own id=>match H[id]? with | some (.arr _ _ _ _ _)=>some [.own id] | some (.ro _ _ _ _ _)=>some [.own id] | some (.mpb _ _ _ _ _)=>some [.own id] | some (.arrD _ _ _ _ _)=>some [.own id] | _=>none
 | d=>some [d]
def d6 (cs new:List D) (L':Nat):List D:=cs.take L'++new++cs.drop (L'+new.length)
def fc (H:List am) (O0:Nat→Option (Nat×Nat)) (cells:List D):List (Nat×D)→Option (List D)
 | []=>some cells
 | (i,x)::rest=>match O0 i,ij H x with
  | some (L',size),some new=>if Nat.beq new.length size&&Nat.ble (L'+new.length) cells.length then fc H O0 (d6 cells new L') rest else none
  | _,_=>none
def fe (P:Program) (t:TypeId):Option (List D):=((P.info? t).bind (·.zero)).map fun z=>z.cells.toList.map D.ofVal1
def ya (P:Program) (H:List am) (t:TypeId) (MS:List (Nat×D)):R1 :=
 match fe P t,P.underlying t with
 | some z,some (.struct fs)=>if fs.all (fun f=>bL P f.type)then
   match fc H (fun i=>(fs[i]?).map fun f=>(f.offset,ap P f.type)) z MS with
   | some cs=>(.agg cs,True)
   | none=>aG
  else aG
 | some z,some (.array _ e)=>if bL P e then
   match fc H (fun i=>some (i*ap P e,ap P e)) z MS with
   | some cs=>(.agg cs,True)
   | none=>aG
  else aG
 | _,_=>aG
def IV (f:Int→Int→Int) (x y:D):R1 :=
 match x,y with
 | .v (.int k a),.v (.int _ b)=>(.v (.int k (f a b)),True)
 | _,_=>aG
def Gb (c a b:D):R1 :=
 match c with
 | .v (.bool t)=>(match t with | true=>a | false=>b,True)
 | _=>aG
def Hz:D→R1
 | .ptr id i sz L'=>(.ptr id i sz L',True)
 | .iptr cs L'=>(.iptr cs L',True)
 | .fn (.func f) a b=>(.fn (.func f) a b,True)
 | .yld id=>(.yld id,True)
 | _=>aG
def wq (x:D) (i:Nat):R1 :=
 match x with
 | .tup cs=>if Nat.blt i cs.length then (cs.getD i .junk,True)else aG
 | _=>aG
def tA (x y:D):Prop:=∀(S:Nat→Prop) (μ:Nat→Value) (w:World) (u:Value),ah S μ w x u→ah S μ w y u
def jU {α:Type _} (d:α):List (ByteArray×α)→ByteArray→α
 | [],_=>d
 | (k',x)::r,k=>if k=k' then x else jU d r k
def pA {α:Type _}:List (ByteArray×α)→ByteArray→Bool
 | [],_=>false
 | (k',_)::r,k=>if k=k' then true else pA r k
def lR {α:Type _}:List (ByteArray×α)→ByteArray→α→List (ByteArray×α)
 | [],k,x=>[(k,x)]
 | (k',y)::r,k,x=>if k=k' then (k,x)::r else (k',y)::lR r k x
theorem J2 (a b:ByteArray):(a==b)=decide (a=b):=by
 cases a with | mk x=>cases b with | mk y =>
 show(x==y)=_
 by_cases h:x=y
 ·subst h;simp
 ·rw[KS (by simpa using h)];exact beq_eq_false_iff_ne.2 h
theorem Gc (a b:ByteArray):Instr.sameNow .string (.string a) (.string b)=some (decide (a=b)):=by
 show some (a==b)=_
 rw[J2]
theorem Cs {α:Type _} {R:α→Value→Prop} (d:α) (k:ByteArray):∀(l:List (ByteArray×α)) (arr:List MapEntry) (n:Nat),arr.length=l.length→(∀(i:Nat) (k':ByteArray) (x:α),l[i]?=some (k',x)→∃e,arr[i]?=some e∧e.key=.string k'∧R x e.val) →
  (pA l k=false∧jU d l k=d∧Instr.findNow .string (.string k) arr n=some none∧∀x,lR l k x=l++[(k,x)]) ∨
  (pA l k=true∧∃(i:Nat) (e:MapEntry) (y:α),l[i]?=some (k,y)∧arr[i]?=some e∧e.key=.string k∧R y e.val∧Instr.findNow .string (.string k) arr n=some (some (n+i,e.val))∧jU d l k=y∧∀x,lR l k x=l.set i (k,x))
 | [],arr,n,hl,_=>by
  have:arr=[]:=List.length_eq_zero_iff.1 hl
  subst this
  exact .inl ⟨rfl,rfl,by simp[Instr.findNow],fun x=>rfl⟩
 | (k',x)::r,[],n,hl,_=>by simp at hl
 | (k',x)::r,a::arr,n,hl,h=>by
  obtain⟨e,he,hk,hr⟩:=h 0 k' x rfl
  simp only[List.getElem?_cons_zero,KP]at he
  subst he
  by_cases PB:k=k'
  ·subst PB
   refine .inr ⟨by rw[pA,KT rfl],0,a,x,rfl,rfl,hk,hr,?_,by rw[jU,KT rfl],fun y=>by rw[lR,KT rfl];rfl⟩
   unfold Instr.findNow
   rw[hk,Gc,KO rfl]
   rfl
  ·have hf:Instr.findNow .string (.string k) (a::arr) n=Instr.findNow .string (.string k) arr (n+1):=by
    conv=>lhs;unfold Instr.findNow
    rw[hk,Gc,KS PB]
   rw[hf,pA,KK PB,jU,KK PB]
   rcases Cs d k r arr (n+1) (by simpa using hl) (fun i k' x hx=>by simpa using h (i+1) k' x (by simpa using hx))with ⟨h1,h0,h2,h3⟩ | ⟨h1,i,e,y,h2,h3,h4,h5,h6,h7,h8⟩
   ·exact .inl ⟨h1,h0,h2,fun y=>by rw[lR,KK PB,h3];rfl⟩
   ·exact .inr ⟨h1,i+1,e,y,by simpa using h2,by simpa using h3,h4,h5,by rw[h6,show n+1+i=n+(i+1) by omega],h7,fun y=>by rw[lR,KK PB,h8];rfl⟩
def tB (P:Program) (t:TypeId):Option D:=((P.info? t).bind (·.zero)).map D.ofVal
def u2 (P:Program) (H:List am) (t:TypeId) (x ix:D) (c:Bool):R1 :=
 match P.underlying t,x,ix with
 | some (.map K E),.own id,.v (.str k)=>match P.underlying K,tB P E,H[id]? with
  | some .string,some z,some (.mpb t' ag enc d l) =>
   if Nat.beq t t' then (if c then .tup [iX ag (enc (jU d l k)),.v (.bool (pA l k))]else iX ag (enc (jU d l k)),tA z (iX ag (enc d)))else aG
  | _,_,_=>aG
 | some (.map K E),.v (.sm ag enc d l),.v (.str k)=>match P.underlying K,tB P E with
  | some .string,some z=>(if c then .tup [iX ag (enc (jU d l k)),.v (.bool (pA l k))]else iX ag (enc (jU d l k)),tA z (iX ag (enc d))∧(ag=false→∀p∈l,(enc p.2).length=1))
  | _,_=>aG
 | _,_,_=>aG
def ew (P:Program) (H:List am) (ρ:Operand→D) (op:Op):R1 :=
 match op with
 | .move x=>(ρ x,True)
 | .assign x=>(ρ x,True)
 | .pick c a b=>Gb (ρ c) (ρ a) (ρ b)
 | .load t a=>zp P t H (ρ a)
 | .nilCheck x=>Hz (ρ x)
 | .binOp op t x y _=>Gv P op t (ρ x) (ρ y)
 | .unOp op _ x=>I5 op (ρ x)
 | .convert src dst x=>Cq P src dst (ρ x)
 | .makeFunc fn first cap=>(.fn fn (first.toList.map ρ) (cap.toList.map ρ),True)
 | .slice t x lo hi mx=>xX P t (ρ x) (lo.map ρ) (hi.map ρ) (mx.map ρ)
 | .fieldAddr s x f=>mh P s (ρ x) f
 | .field t x f=>xU P t (ρ x) f
 | .indexAddr t x i=>mi P t H (ρ x) (ρ i)
 | .index t x i=>xV P t (ρ x) (ρ i)
 | .extract x i=>wq (ρ x) i
 | .build t MS=>ya P H t (MS.toList.map fun p=>(p.1,ρ p.2))
 | .lookup t x ix c=>u2 P H t (ρ x) (ρ ix) c
 | .call c=>match c.callee with
  | .builtin .len=>match c.args.toList,c.argTypes.toList with
   | [x],[t]=>Gw P t H (ρ x)
   | _,_=>aG
  | .builtin .min=>match c.args.toList with
   | [x,y]=>IV wm (ρ x) (ρ y)
   | _=>aG
  | .builtin .max=>match c.args.toList with
   | [x,y]=>IV Gx (ρ x) (ρ y)
   | _=>aG
  | _=>aG
 | _=>aG
section
variable {P:Program} {S:Nat→Prop} {μ:Nat→Value} {w:World}
theorem ci.cells {x:V} {u:Value} (h:ci S w x u):u.cells=#[u]:=by cases h<;>rfl
theorem fL {H:List am} (hH:aV S μ w H) {d:D} {u:Value} {cs:List D} (hd:ah S μ w d u) (hc:ij H d=some cs) :
  u.cells.size=cs.length∧∀(j:Nat) (y:D) (z:Value),cs[j]?=some y→u.cells[j]?=some z→ah S μ w y z:=by
 have one:∀(d:D) (u:Value),ah S μ w d u→u.cells=#[u]→cs=[d]→u.cells.size=cs.length∧∀(j:Nat) (y:D) (z:Value),cs[j]?=some y→u.cells[j]?=some z→ah S μ w y z:=by
  rintro d u hd hu rfl
  rw[hu]
  refine⟨rfl,fun j y z hy hz=>?_⟩
  cases j with
  | zero=>simp at hy hz;subst hy hz;exact hd
  | succ j=>simp at hy
 unfold ij at hc
 split at hc
 ·cases hc
  obtain⟨us,rfl,h1,h2⟩:=dr hd
  exact⟨h1,h2⟩
 ·cases hc
 ·cases hc
 ·split at hc
  ·rename_i E sz α enc d' l hb
   cases hc
   obtain⟨q,c,hm,_⟩:=bv (hH.box _ _ hb)
   have hu:=a6 hd
   exact one _ _ hd (by rw[hu,hm];rfl) rfl
  ·rename_i E sz α enc d' l hb
   cases hc
   obtain⟨q,c,hm,_⟩:=bv (hH.box _ _ hb).ro_arr
   have hu:=a6 hd
   exact one _ _ hd (by rw[hu,hm];rfl) rfl
  ·rename_i t ag α enc d' l hb
   cases hc
   obtain⟨b,arr,clock,hm,_⟩:=hH.box _ _ hb
   have hu:=a6 hd
   exact one _ _ hd (by rw[hu,hm];rfl) rfl
  ·rename_i E sz m gs cell hb
   cases hc
   obtain⟨q,c,hm,_⟩:=eu (hH.box _ _ hb)
   have hu:=a6 hd
   exact one _ _ hd (by rw[hu,hm];rfl) rfl
  ·cases hc
 ·rename_i h1 h2 h3 h4
  cases hc
  refine one _ _ hd ?_ rfl
  cases hd with
  | v x u h=>exact h.cells
  | nils=>rfl
  | own id=>exact absurd rfl (h4 id)
  | ptr=>rfl
  | iptr=>rfl
  | agg cs us _ _=>exact absurd rfl (h1 cs)
  | tup cs us _ _=>exact absurd rfl (h2 cs)
  | fn=>rfl
  | yld=>rfl
  | capd=>rfl
  | gr g r us u _ _ h=>cases u<;>first | rfl | cases h
  | preA=>rfl
  | preB _ _ _ _ _ _ _ h=>exact h.cells
  | junk u=>exact absurd rfl h3
def aE (S:Nat→Prop) (μ:Nat→Value) (w:World) (cs:List D) (us:Array Value):Prop :=
 us.size=cs.length∧∀(j:Nat) (y:D) (z:Value),cs[j]?=some y→us[j]?=some z→ah S μ w y z
theorem ET (new:Array Value) (cells:Array Value) (L':Nat):∀(n:Nat),n≤new.size→L'+new.size≤cells.size →
  ((new.toList.zipIdx.take n).foldl (fun cs (p:Value×Nat)=>cs.setIfInBounds (L'+p.2) p.1) cells).size=cells.size ∧
  ∀j,((new.toList.zipIdx.take n).foldl (fun cs (p:Value×Nat)=>cs.setIfInBounds (L'+p.2) p.1) cells)[j]?=if L'≤j∧j<L'+n then new[j-L']? else cells[j]?:=by
 intro n
 induction n with
 | zero=>intro _ _;exact⟨by simp,fun j=>by rw[KK (by omega)];simp⟩
 | succ n ih =>
  intro hn ho
  obtain⟨h1,h2⟩:=ih (by omega) ho
  have ht:new.toList.zipIdx.take (n+1)=new.toList.zipIdx.take n++[(new[n]'(by omega),n)]:=by
   rw[L3 (by simp;omega)]
   congr 1
   simp
  rw[ht,Mr]
  simp only[List.foldl_cons,List.foldl_nil]
  refine⟨by rw[Array.size_setIfInBounds];exact h1,fun j=>?_⟩
  by_cases hj:j=L'+n
  ·subst hj
   rw[Array.getElem?_setIfInBounds_self_of_lt (by omega),KT (by omega),show L'+n-L'=n from by omega]
   simp
  ·rw[Lz (by omega),h2 j]
   by_cases hc:L'≤j∧j<L'+n
   ·rw[KT hc,KT (by omega)]
   ·rw[KK hc,KK (by omega)]
theorem wt {cs new:List D} {us vs:Array Value} {L':Nat} (h:aE S μ w cs us) (hn:aE S μ w new vs) (ho:L'+new.length≤cs.length) :
  aE S μ w (d6 cs new L') (vs.zipIdx.foldl (fun cs (c,j)=>cs.setIfInBounds (L'+j) c) us):=by
 have e:vs.zipIdx.foldl (fun cs (c,j)=>cs.setIfInBounds (L'+j) c) us=(vs.toList.zipIdx.take vs.size).foldl (fun cs (p:Value×Nat)=>cs.setIfInBounds (L'+p.2) p.1) us:=by
  rw[← Array.foldl_toList,Array.toList_zipIdx,Mh (by simp)]
 obtain⟨h1,h2⟩:=ET vs us L' vs.size (KI _) (by rw[hn.1,h.1];exact ho)
 rw[← e]at h1 h2
 refine⟨by rw[h1,h.1];simp[d6];omega,fun j y z hy hz=>?_⟩
 rw[h2 j]at hz
 unfold d6 at hy
 by_cases hc:L'≤j∧j<L'+vs.size
 ·rw[KT hc]at hz
  refine hn.2 (j-L') y z ?_ hz
  rw[KL (by simp;have:=hn.1;omega),KR (by simp;omega)]at hy
  rw[KV,Nat.min_eq_left (by omega)]at hy
  exact hy
 ·rw[KK hc]at hz
  refine h.2 j y z ?_ hz
  have hs:=hn.1
  by_cases hj:j<L'
  ·rw[KL (by simp;omega),KL (by simp;omega),K4,KT hj]at hy
   exact hy
  ·rw[KR (by simp;omega),LZ]at hy
   simp only[KN,KV]at hy
   rw[show L'+new.length+(j-(min L' cs.length+new.length))=j from by omega]at hy
   exact hy
theorem dM {H:List am} (hH:aV S μ w H) {O0:Nat→Option (Nat×Nat)}:∀(MS:List (Nat×D)) (MY:List (Nat×Value)) (cells OU:List D) (us:Array Value),
  MS.map (·.1)=MY.map (·.1)→(∀(j:Nat) (x:Nat×D) (u:Nat×Value),MS[j]?=some x→MY[j]?=some u→ah S μ w x.2 u.2) →
  aE S μ w cells us→fc H O0 cells MS=some OU→∃vs,Instr.fill O0 us MY=some vs∧aE S μ w OU vs
 | [],[],cells,OU,us,_,_,hc,hf=>by
  simp only[fc,KP]at hf
  subst hf
  exact⟨us,rfl,hc⟩
 | [],_::_,_,_,_,h,_,_,_=>by simp at h
 | _::_,[],_,_,_,h,_,_,_=>by simp at h
 | (i,x)::MS,(i',u)::MY,cells,OU,us,hi,hr,hc,hf=>by
  simp only[LD,LM]at hi
  obtain⟨rfl,hi⟩:=hi
  unfold fc at hf
  split at hf
  ·rename_i L' size new hp hn
   split at hf
   ·rename_i M8
    simp only[KD,KU,LJ]at M8
    obtain⟨hl,ho⟩:=M8
    have Nv:=fL hH (hr 0 _ _ rfl rfl) hn
    obtain⟨vs,h1,h2⟩:=dM hH MS MY _ OU _ hi (fun j x u hx hu=>hr (j+1) x u (by simpa using hx) (by simpa using hu)) (wt hc Nv ho) hf
    refine⟨vs,?_,h2⟩
    unfold Instr.fill
    rw[hp]
    dsimp only
    have h9:u.cells.size=new.length:=Nv.1
    have h8:us.size=cells.length:=hc.1
    rw[KK (by simp only[Lf,Lu];omega)]
    exact h1
   ·cases hf
  ·cases hf
theorem ff {t:TypeId} {z:List D} (h:fe P t=some z):∃v,(zeroValue t).run P w=.ok v w∧aE S μ w z v.cells:=by
 unfold fe at h
 cases hi:P.info? t with
 | none=>simp[hi]at h
 | some i =>
  cases hz:i.zero with
  | none=>simp[hi,hz]at h
  | some v =>
   simp only[hi,hz,Mi,Lj,KP]at h
   subst h
   refine⟨v,by simp[zeroValue,typeInfo,hi,hz,KH],by simp,fun j y u hy hu=>?_⟩
   simp only[KX,Ld,hu,Lj,KP]at hy
   subst hy
   exact ah.ofVal1 S μ w u
theorem jD:∀(l:List Field),l.all (fun f=>bL P f.type)=true→(l.mapM (fun f=>do pure (f.offset,← sizeOf f.type):Field→Sem (Nat×Nat))).run P w=.ok (l.map fun f=>(f.offset,ap P f.type)) w
 | [],_=>rfl
 | f::l,h=>by
  simp only[List.all_cons,KD]at h
  have:=jD l h.2
  simp only[List.mapM_cons,KH,cV h.1,KG,KZ,this,LD]
theorem u3 {H:List am} (hH:aV S μ w H) {t:TypeId} {MS:List (Nat×D)} {MY:List (Nat×Value)} {d:D} {p:Prop} (h1:MS.map (·.1)=MY.map (·.1))
  (h2:∀(j:Nat) (x:Nat×D) (u:Nat×Value),MS[j]?=some x→MY[j]?=some u→ah S μ w x.2 u.2) (hp:ya P H t MS=(d,p)) (D':p) :
  ∃u,(Instr.build t MY.toArray).run P w=.ok u w∧ah S μ w d u:=by
 unfold ya at hp
 split at hp
 ·rename_i z fs hz hu
  split at hp
  ·rename_i hall
   split at hp
   ·rename_i cs hf
    cases hp
    obtain⟨v,hv,hr⟩:=ff (S:=S) (μ:=μ) (w:=w) hz
    obtain⟨vs,h3,h4⟩:=dM hH MS MY z cs v.cells h1 h2 hr hf
    refine⟨.agg vs,?_,.agg _ _ h4.1 h4.2⟩
    have hall':fs.toList.all (fun f=>bL P f.type)=true:=by simpa using hall
    have hm:=jD (P:=P) (w:=w) fs.toList hall'
    have hm2:(fs.mapM (fun f=>do pure (f.offset,← sizeOf f.type):Field→Sem (Nat×Nat))).run P w=.ok (fs.toList.map fun f=>(f.offset,ap P f.type)).toArray w:=by
     rw[Array.mapM_eq_mapM_toList]
     have hb:∀(s:Sem (List (Nat×Nat))) (r:List (Nat×Nat)),s.run P w=.ok r w→((s.bind (Sem.pure ∘ List.toArray)):Sem (Array (Nat×Nat))).run P w=.ok r.toArray w:=by
      intro s r h
      show Sem.run P (s >>= (Sem.pure ∘ List.toArray)) w=_
      rw[KH,h]
      rfl
     exact hb _ _ hm
    unfold Instr.build
    simp only[KH,hv,Lh hu,KG,hm2]
    have PF:(fun (i:Nat)=>((fs.toList.map fun (f:Field)=>(f.offset,ap P f.type)).toArray)[i]?)=fun (i:Nat)=>(fs[i]?).map fun (f:Field)=>(f.offset,ap P f.type):=by
     funext i
     simp
    rw[PF,h3]
    rfl
   ·cases hp;exact D'.elim
  ·cases hp;exact D'.elim
 ·rename_i z n e hz hu
  split at hp
  ·rename_i hk
   split at hp
   ·rename_i cs hf
    cases hp
    obtain⟨v,hv,hr⟩:=ff (S:=S) (μ:=μ) (w:=w) hz
    obtain⟨vs,h3,h4⟩:=dM hH MS MY z cs v.cells h1 h2 hr hf
    refine⟨.agg vs,?_,.agg _ _ h4.1 h4.2⟩
    unfold Instr.build
    simp only[KH,hv,Lh hu,KG,cV hk]
    rw[h3]
    rfl
   ·cases hp;exact D'.elim
  ·cases hp;exact D'.elim
 ·cases hp;exact D'.elim
theorem pB {w:World} {t K E:TypeId} {b clock:Nat} {arr:Array MapEntry} {k:ByteArray} (ht:P.underlying t=some (.map K E)) (hK:P.underlying K=some .string) (hb:w.heap[b]?=some (.map arr clock)) {r:Option (Nat×Value)} (hf:Instr.findNow .string (.string k) arr.toList 0=some r) {z:Value} (hz:r=none→(zeroValue E).run P w=.ok z w) (c:Bool) :
  (Instr.lookup t (.map (some b)) (.string k) c).run P w=.ok (if c then .tuple #[match r with | some (_,v)=>v | none=>z,.bool r.isSome]else match r with | some (_,v)=>v | none=>z) w:=by
 have hu:(underlying t).run P w=.ok (.map K E) w:=by simp[underlying,ht,KH,Sem.run]
 have N2:(underlying K).run P w=.ok .string w:=by simp[underlying,hK,KH,Sem.run]
 have hg:(getObj b).run P w=.ok (.map arr clock) w:=by simp[getObj,Sem.run,hb]
 have hc:(Instr.checkKey arr.isEmpty 10000 K (.string k)).run P w=.ok () w:=by
  rw[show(10000:Nat)=9999+1 from rfl]
  unfold Instr.checkKey
  simp[KH,N2]
 have hk:(Instr.findKey K (.string k) arr.toList).run P w=.ok r w:=by
  simp[Instr.findKey,KH,N2,hf]
 cases r with
 | some q =>
  obtain⟨i,v⟩:=q
  cases c<;>simp[Instr.lookup,KH,hu,hg,hc,hk]
 | none =>
  cases c<;>simp[Instr.lookup,KH,hu,hg,hc,hk,hz rfl]
theorem tC {ag:Bool} {α:Type} {enc:α→List V} {l:List (ByteArray×α)} {arr:Array MapEntry} (h:zo S μ w ag enc l arr):arr.toList.length=l.length∧∀(i:Nat) (k':ByteArray) (x:α),l[i]?=some (k',x)→∃e,arr.toList[i]?=some e∧e.key=.string k'∧((ag=false→(enc x).length=1)∧ah S μ w (iX ag (enc x)) e.val) :=
 ⟨by simpa using h.1,fun i k' x hx=>by
  obtain⟨e,h1,h2,h3⟩:=h.2 i k' x hx
  exact⟨e,by simpa using h1,h2,h3⟩⟩
theorem A8 {E:TypeId} {z:D} (hz:tB P E=some z):∃v,(zeroValue E).run P w=.ok v w∧ah S μ w z v:=by
 unfold tB at hz
 cases hi:P.info? E with
 | none=>simp[hi]at hz
 | some i =>
  cases hv:i.zero with
  | none=>simp[hi,hv]at hz
  | some v =>
   simp only[hi,hv,Mi,Lj,KP]at hz
   refine⟨v,?_,hz ▸ ah.ofVal S μ w v⟩
   simp[zeroValue,typeInfo,hi,hv,KH,Sem.run]
theorem Cu {ag:Bool} {α:Type} {enc:α→List V} {l:List (ByteArray×α)} {arr:Array MapEntry} {us:Nat→Nat→Value} (h4:arr.size=l.length) (h5:∀(i:Nat) (k:ByteArray) (x:α),l[i]?=some (k,x)→∃e,arr[i]?=some e∧e.key=.string k∧zm ag (enc x).length e.val (us i)) (h6:∀(i:Nat) (k:ByteArray) (x:α) (j:Nat) (y:V),l[i]?=some (k,x)→(enc x)[j]?=some y→ci S w y (us i j)) (h7:ag=false→∀p∈l,(enc p.2).length=1):zo S μ w ag enc l arr:=by
 refine⟨h4,fun i k x hx=>?_⟩
 obtain⟨e,e1,e2,e3⟩:=h5 i k x hx
 refine⟨e,e1,e2,fun ha=>h7 ha _ (Lb hx),?_⟩
 unfold zm at e3
 cases ag
 ·simp only[Lm,L6]at e3
  have hl:=e3.1
  match hq:enc x,hl with
  | [y],_ =>
   rw[e3.2]
   exact .v _ _ (h6 i k x 0 y hx (by rw[hq];rfl))
 ·simp only[L9]at e3
  obtain⟨a,ha,hs,hg⟩:=e3
  rw[ha]
  show ah S μ w (.agg ((enc x).map D.v)) _
  refine .agg _ _ (by rw[KM];exact hs) (fun j y u hy hu=>?_)
  rw[KX]at hy
  cases hq:(enc x)[j]? with
  | none=>rw[hq]at hy;cases hy
  | some v =>
   rw[hq]at hy
   cases hy
   have:=hg j (KE.1 hq).1
   rw[this]at hu
   cases hu
   exact .v _ _ (h6 i k x j v hx hq)
theorem zs {t K E:TypeId} {b clock:Nat} {arr:Array MapEntry} {ag:Bool} {α:Type} {enc:α→List V} {d0:α} {l:List (ByteArray×α)} {k:ByteArray} {c:Bool} {z:D} (hu:P.underlying t=some (.map K E)) (hK:P.underlying K=some .string) (hz:tB P E=some z) (hb:w.heap[b]?=some (.map arr clock)) (P8:zo S μ w ag enc l arr) (D':tA z (iX ag (enc d0))) :
  ∃u,(Instr.lookup t (.map (some b)) (.string k) c).run P w=.ok u w∧ah S μ w (if c then .tup [iX ag (enc (jU d0 l k)),.v (.bool (pA l k))]else iX ag (enc (jU d0 l k))) u:=by
 obtain⟨m1,m2⟩:=tC P8
 have hzv:∃v,(zeroValue E).run P w=.ok v w∧ah S μ w z v:=by
  unfold tB at hz
  cases hi:P.info? E with
  | none=>simp[hi]at hz
  | some i =>
   cases hv:i.zero with
   | none=>simp[hi,hv]at hz
   | some v =>
    simp only[hi,hv,Mi,Lj,KP]at hz
    refine⟨v,?_,hz ▸ ah.ofVal S μ w v⟩
    simp[zeroValue,typeInfo,hi,hv,KH,Sem.run]
 obtain⟨zv,Sy,hz2⟩:=hzv
 rcases Cs (R:=fun x v=>(ag=false→(enc x).length=1)∧ah S μ w (iX ag (enc x)) v) d0 k l arr.toList 0 m1 m2 with ⟨h1,h0,h2,h3⟩ | ⟨h1,i,e,y,h2,h3,h4,h5,h6,h7,h8⟩
 ·have hr:=pB (P:=P) hu hK hb h2 (z:=zv) (fun _=>Sy) c
  refine⟨_,hr,?_⟩
  rw[h0,h1]
  have hd:=D' S μ w zv hz2
  cases c
  ·exact hd
  ·refine .tup _ _ rfl (fun j y u hy hu=>?_)
   match j,hy,hu with
   | 0,hy,hu=>cases hy;cases hu;exact hd
   | 1,hy,hu=>cases hy;cases hu;exact .v _ _ (.bool _)
   | j+2,hy,hu=>simp at hy
 ·have hr:=pB (P:=P) hu hK hb h6 (z:=undef) (fun h=>by cases h) c
  refine⟨_,hr,?_⟩
  rw[h7,h1]
  cases c
  ·exact h5.2
  ·refine .tup _ _ rfl (fun j y u hy hu=>?_)
   match j,hy,hu with
   | 0,hy,hu=>cases hy;cases hu;exact h5.2
   | 1,hy,hu=>cases hy;cases hu;exact .v _ _ (.bool _)
   | j+2,hy,hu=>simp at hy
theorem s8 {H:List am} (hH:aV S μ w H) {t:TypeId} {x ix:D} {ux ui:Value} {c:Bool} {d:D} {p:Prop} (hx:ah S μ w x ux) (hi:ah S μ w ix ui) (hp:u2 P H t x ix c=(d,p)) (D':p) :
  ∃u,(Instr.lookup t ux ui c).run P w=.ok u w∧ah S μ w d u:=by
 unfold u2 at hp
 split at hp
 ·rename_i K E id k hu
  split at hp
  ·rename_i z t' ag α enc d0 l hK hz G'
   split at hp
   ·cases hp
    have e1:=a6 hx
    have e2:=d4 hi
    subst e1 e2
    obtain⟨b,arr,clock,hm,hb,P8⟩:=hH.box id _ G'
    rw[hm]
    exact zs hu hK hz hb P8 D'
   ·cases hp;exact D'.elim
  ·cases hp;exact D'.elim
 ·rename_i K E ag α enc d0 l k hu
  split at hp
  ·rename_i z hK hz
   cases hp
   have e2:=d4 hi
   subst e2
   have hr:=ba hx
   cases hr with
   | smn =>
    obtain⟨zv,Sy,hz2⟩:=A8 (P:=P) (S:=S) (μ:=μ) (w:=w) hz
    have Rl:(underlying t).run P w=.ok (.map K E) w:=by simp[underlying,hu,KH,Sem.run]
    have N2:(underlying K).run P w=.ok .string w:=by simp[underlying,hK,KH,Sem.run]
    have hc:(Instr.checkKey true 10000 K (.string k)).run P w=.ok () w:=by
     rw[show(10000:Nat)=9999+1 from rfl]
     unfold Instr.checkKey
     simp[KH,N2]
    have hf:(Instr.findKey K (.string k) ([]:List MapEntry)).run P w=.ok none w:=by simp[Instr.findKey,KH,N2,Instr.findNow]
    have hd:=D'.1 S μ w zv hz2
    cases c
    ·exact⟨zv,by simp[Instr.lookup,KH,Rl,hc,hf,Sy],hd⟩
    ·refine⟨.tuple #[zv,.bool false],by simp[Instr.lookup,KH,Rl,hc,hf,Sy],.tup _ _ rfl (fun j y u hy hu=>?_)⟩
     match j,hy,hu with
     | 0,hy,hu=>cases hy;cases hu;exact hd
     | 1,hy,hu=>cases hy;cases hu;exact .v _ _ (.bool _)
     | j+2,hy,hu=>simp at hy
   | sm _ _ _ _ b clock arr us h1 h2 h3 h4 h5 h6 =>
    exact zs hu hK hz h3 (Cu h4 h5 h6 D'.2) D'.1
  ·cases hp;exact D'.elim
 ·cases hp;exact D'.elim
theorem fM {H:List am} (hH:aV S μ w H) {ρ:Operand→D} {ρ':Operand→Value} (hρ:∀x,ah S μ w (ρ x) (ρ' x)) {o:Oper} {d:D} {p:Prop} (hp:ew P H ρ o.op=(d,p)) (D':p) :
  ∃u,(execOp ρ' o).run P w=.ok (.value u) w∧ah S μ w d u:=by
 have hv:∀(s:Sem Value) (u:Value),s.run P w=.ok u w→(do pure (.value (← s)):Sem Next).run P w=.ok (.value u) w:=by
  intro s u h
  simp only[KH,h,KG,KZ]
 have hO:∀x:Option Operand,mV S μ w (x.map ρ) (x.map ρ'):=by
  intro x
  cases x with
  | none=>trivial
  | some x=>exact hρ x
 unfold ew at hp
 unfold execOp
 generalize ho:o.op=op at *
 cases op<;>(try simp only at hp)<;>(try (simp only[aG,KJ]at hp;obtain⟨_,rfl⟩:=hp;exact D'.elim))
 case move x=>cases hp;exact⟨_,rfl,hρ x⟩
 case assign x=>cases hp;exact⟨_,rfl,hρ x⟩
 case pick c a b =>
  unfold Gb at hp
  split at hp
  ·rename_i t hc
   have hb:=dZ (hc ▸ hρ c)
   cases t<;>cases hp
   ·exact⟨ρ' b,by simp only[KH,hb,asBool,KZ,KG];rfl,hρ b⟩
   ·exact⟨ρ' a,by simp only[KH,hb,asBool,KZ,KG];rfl,hρ a⟩
  ·cases hp;exact D'.elim
 case load t a =>
  obtain⟨u,h1,h2⟩:=pz hH (hρ a) hp D'
  exact⟨u,hv _ _ h1,h2⟩
 case nilCheck x =>
  have hx:=hρ x
  dsimp only
  unfold Hz at hp
  split at hp
  ·rename_i hq
   cases hp
   rw[hq]at hx
   obtain⟨b,hb,e⟩:=kK hx
   rw[e]at hx ⊢
   exact⟨_,rfl,hx⟩
  ·rename_i hq
   cases hp
   rw[hq]at hx
   obtain⟨b,o',e,_⟩:=qZ hx
   rw[e]at hx ⊢
   exact⟨_,rfl,hx⟩
  ·rename_i f a b hq
   cases hp
   rw[hq]at hx
   generalize ρ' x=u at *
   cases hx with
   | fn _ _ _ us vs h1 h2 h3 h4=>exact⟨_,rfl,.fn _ _ _ us vs h1 h2 h3 h4⟩
  ·rename_i id hq
   cases hp
   rw[hq]at hx
   generalize ρ' x=u at *
   cases hx with
   | yld _ l h1=>exact⟨_,rfl,.yld _ l h1⟩
  ·cases hp;exact D'.elim
 case binOp op t x y yt =>
  obtain⟨u,h1,h2⟩:=x8 x y (hρ x) (hρ y) hp D'
  exact⟨u,hv _ _ h1,h2⟩
 case unOp op t x =>
  obtain⟨u,h1,h2⟩:=A7 (P:=P) (hρ x) hp D'
  exact⟨u,hv _ _ h1,h2⟩
 case convert src dst x =>
  obtain⟨u,h1,h2⟩:=wp (hρ x) hp D'
  exact⟨u,hv _ _ h1,h2⟩
 case makeFunc fn first cap =>
  cases hp
  refine⟨_,hv _ _ rfl,.fn _ _ _ _ _ (by simp) (fun j y u hy hu=>?_) (by simp) (fun j y u hy hu=>?_)⟩
  ·simp only[KX,Ld,LP]at hy hu
   cases hj:first[j]? with
   | none=>rw[hj]at hy;cases hy
   | some x=>rw[hj]at hy hu;simp at hy hu;subst hy hu;exact hρ x
  ·simp only[KX,Ld,LP]at hy hu
   cases hj:cap[j]? with
   | none=>rw[hj]at hy;cases hy
   | some x=>rw[hj]at hy hu;simp at hy hu;subst hy hu;exact hρ x
 case slice t x lo hi mx =>
  obtain⟨u,h1,h2⟩:=uY (hρ x) (hO lo) (hO hi) (hO mx) hp D'
  exact⟨u,hv _ _ h1,h2⟩
 case fieldAddr s x f =>
  obtain⟨u,h1,h2⟩:=oE (hρ x) hp D'
  exact⟨u,hv _ _ h1,h2⟩
 case field t x f =>
  obtain⟨u,h1,h2⟩:=uV (hρ x) hp D'
  exact⟨u,hv _ _ h1,h2⟩
 case indexAddr t x i =>
  obtain⟨u,h1,h2⟩:=oG hH (hρ x) (hρ i) hp D'
  exact⟨u,hv _ _ h1,h2⟩
 case index t x i =>
  obtain⟨u,h1,h2⟩:=uW (hρ x) (hρ i) hp D'
  exact⟨u,hv _ _ h1,h2⟩
 case lookup t x ix c =>
  obtain⟨u,h1,h2⟩:=s8 hH (hρ x) (hρ ix) hp D'
  exact⟨u,hv _ _ h1,h2⟩
 case extract x i =>
  have hx:=hρ x
  unfold wq at hp
  split at hp
  ·rename_i cs hq
   split at hp
   ·rename_i hi
    cases hp
    rw[hq]at hx
    obtain⟨us,e,h1,h2⟩:=ql hx
    rw[Mq]at hi
    have hu:us[i]?=some us[i]:=K0 (by omega)
    refine⟨us[i],hv _ _ (by rw[e];simp only[Instr.extract,hu];rfl),?_⟩
    rw[eX _ _ hi]
    exact h2 i _ _ (KF hi) hu
   ·cases hp;exact D'.elim
  ·cases hp;exact D'.elim
 case build t MS =>
  obtain⟨u,h1,h2⟩:=u3 (P:=P) hH (MY:=MS.toList.map fun p=>(p.1,ρ' p.2)) (by simp) (fun j x u hx hu=>by
   simp only[KX,Ld]at hx hu
   cases hj:MS[j]? with
   | none=>rw[hj]at hx;cases hx
   | some q=>rw[hj]at hx hu;simp at hx hu;subst hx hu;exact hρ q.2) hp D'
  refine⟨u,hv _ _ ?_,h2⟩
  rw[← h1]
  congr 2
  exact(Mp (by simp))
 case call c =>
  obtain⟨callee,args,PN⟩:=c
  simp only at hp
  split at hp
  ·rename_i hcal
   split at hp
   ·rename_i x t ha ht
    obtain⟨u,h1,h2⟩:=x9 (P:=P) (ty:=o.type) hH (hρ x) hp D'
    refine⟨u,?_,h2⟩
    have ea:args=#[x]:=Mp (by simpa using ha)
    have et:PN=#[t]:=Mp (by simpa using ht)
    subst ea et
    simp only[resolve,invoke,builtin,Md,LD,Lk,KH,KZ,KG,h1]
   ·cases hp;exact D'.elim
  ·split at hp
   ·rename_i x y ha
    have ea:args=#[x,y]:=Mp (by simpa using ha)
    subst ea
    unfold IV at hp
    split at hp
    ·rename_i k a k' b OO Pg
     cases hp
     have e1:=bp (OO ▸ hρ x)
     have e2:=bp (Pg ▸ hρ y)
     refine⟨.int k (wm a b),?_,.v _ _ (.int _ _)⟩
     simp only[resolve,invoke,builtin,Md,LD,Lk,KH,KZ,KG,e1,e2,Builtin.min_,List.foldlM_cons,List.foldlM_nil,Builtin.min2]
     rfl
    ·cases hp;exact D'.elim
   ·cases hp;exact D'.elim
  ·split at hp
   ·rename_i x y ha
    have ea:args=#[x,y]:=Mp (by simpa using ha)
    subst ea
    unfold IV at hp
    split at hp
    ·rename_i k a k' b OO Pg
     cases hp
     have e1:=bp (OO ▸ hρ x)
     have e2:=bp (Pg ▸ hρ y)
     refine⟨.int k (Gx a b),?_,.v _ _ (.int _ _)⟩
     simp only[resolve,invoke,builtin,Md,LD,Lk,KH,KZ,KG,e1,e2,Builtin.max_,List.foldlM_cons,List.foldlM_nil,Builtin.max2]
     rfl
    ·cases hp;exact D'.elim
   ·cases hp;exact D'.elim
  ·cases hp;exact D'.elim
end
def lS:List (Nat×D)→Nat→D
 | [],_=>.junk
 | (s,d)::r,t=>if Nat.beq s t then d else lS r t
def pC:List (Nat×D)→Nat→List (Nat×D)
 | [],_=>[]
 | (s,d)::r,t=>if Nat.beq s t then pC r t else (s,d)::pC r t
def pX (env:List (Nat×D)) (t:Nat) (d:D):List (Nat×D):=(t,d)::pC env t
def Cv (g:Nat):D:=match gK.find? (fun p=>Nat.beq p.1 g)with
 | some p=>.iptr p.2 0
 | none=>.junk
def dA (env:List (Nat×D)):Operand→D
 | .tmp t=>lS env t
 | .const v=>D.ofVal v
 | .func f=>.fn (.func f) [] []
 | .global g=>Cv g
theorem oI:∀{env:List (Nat×D)} {t:Nat},lS env t=.junk∨(t,lS env t)∈env
 | [],t=>.inl rfl
 | (s,d)::r,t=>by
  unfold lS
  cases h:Nat.beq s t
  ·simp only[Lm,L6]
   rcases oI (env:=r) (t:=t)with h | h
   ·exact .inl h
   ·exact .inr (Lc _ h)
  ·simp only[L9]
   rw[KU]at h
   subst h
   exact .inr (Lg ..)
theorem ex:∀{env:List (Nat×D)} {t s:Nat} {d:D},(s,d)∈pC env t→(s,d)∈env∧s≠t
 | [],t,s,d,h=>by cases h
 | (s',d')::r,t,s,d,h=>by
  unfold pC at h
  cases hb:Nat.beq s' t
  ·simp only[hb,Lm,L6]at h
   rcases Lv.1 h with h | h
   ·cases h
    refine⟨Lg ..,fun e=>?_⟩
    subst e
    rw[Nat.beq_refl]at hb
    cases hb
   ·exact⟨Lc _ (ex h).1,(ex h).2⟩
  ·simp only[hb,L9]at h
   exact⟨Lc _ (ex h).1,(ex h).2⟩
def aM (μ:Nat→Value) (id:Nat) (u:Value):Nat→Value:=fun i=>if i=id then u else μ i
theorem ao (μ:Nat→Value) (id:Nat) (u:Value):aM μ id u id=u:=KT rfl
theorem av (μ:Nat→Value) {id i:Nat} (u:Value) (h:i≠id):aM μ id u i=μ i:=KK h
theorem u4 {a b:Nat} (h:a≠b):(!(Nat.beq a b))=true:=by
 cases hb:Nat.beq a b
 ·rfl
 ·exact absurd (by rwa [KU]at hb) h
def aP (id:Nat):List am→Bool
 | []=>true
 | B::r=>am.free id B&&aP id r
theorem b8 {id:Nat}:∀{H:List am} {i:Nat} {B:am},aP id H=true→H[i]?=some B→am.free id B=true
 | B'::r,0,B,h,hm=>by
  simp only[aP,KD]at h
  simp at hm
  subst hm
  exact h.1
 | B'::r,i+1,B,h,hm=>by
  simp only[aP,KD]at h
  exact b8 h.2 (by simpa using hm)
def killD (id:Nat) (d:D):D:=if D.free id d then d else .junk
def jE (id:Nat):List (Nat×D)→List (Nat×D)
 | []=>[]
 | (t,d)::r=>(t,killD id d)::jE id r
def lU (id:Nat):List D→List D
 | []=>[]
 | d::r=>killD id d::lU id r
def am.kill (id:Nat):am→am
 | .dead=>.dead
 | .var T cs=>.var T (lU id cs)
 | .arr E sz enc d l=>.arr E sz enc d l
 | .loop l tm nt env ps assign body state pending=>.loop l tm nt (jE id env) ps assign body state pending
 | .frame tm env=>.frame tm (jE id env)
 | .ro E sz enc d l=>.ro E sz enc d l
 | .mpb t ag enc d l=>.mpb t ag enc d l
 | .arrD E sz n gs cell=>if gs.all (fun g=>!(Nat.beq g id))then .arrD E sz n gs cell else .arrD E sz n (gs.filter (fun g=>!(Nat.beq g id))) (fun i j=>killD id (cell i j))
 | .grp n f=>.grp n f
 | .nest E sz n ce m f=>.nest E sz n ce m f
def bS (id:Nat):List am→List am
 | []=>[]
 | B::r=>B.kill id::bS id r
theorem iZ (id:Nat) (d:D):D.free id (killD id d)=true:=by
 unfold killD
 cases h:D.free id d
 ·rfl
 ·simpa using h
theorem i1 (id:Nat):∀env,bj id (jE id env)=true
 | []=>rfl
 | (t,d)::r=>by simp[jE,bj,iZ,i1 id r]
theorem rf (id:Nat):∀cs,D.freeL id (lU id cs)=true
 | []=>rfl
 | d::r=>by simp[lU,D.freeL,iZ,rf id r]
theorem i2 (id:Nat):∀H,aP id (bS id H)=true
 | []=>rfl
 | B::r=>by
  simp only[bS,aP,i2 id r,MO]
  cases B<;>first | (simp[am.kill,am.free,rf,i1];done) | skip
  rename_i E sz n gs cell
  simp only[am.kill]
  split
  ·rename_i h;exact h
  ·simp[am.free]
theorem ey {id:Nat}:∀{env:List (Nat×D)} {t:Nat} {d:D},(t,d)∈jE id env→∃e,(t,e)∈env∧d=killD id e
 | (s,e)::r,t,d,h=>by
  rcases Lv.1 h with h | h
  ·cases h;exact⟨e,Lg ..,rfl⟩
  ·obtain⟨e',h1,h2⟩:=ey h
   exact⟨e',Lc _ h1,h2⟩
theorem tD (id:Nat):∀(cs:List D) (j:Nat),(lU id cs)[j]?=(cs[j]?).map (killD id)
 | [],j=>by simp[lU]
 | d::r,0=>by simp[lU]
 | d::r,j+1=>by simp[lU,tD id r j]
theorem mW (id:Nat):∀cs,(lU id cs).length=cs.length
 | []=>rfl
 | d::r=>by simp[lU,mW id r]
theorem ez (id:Nat):∀(H:List am) (j:Nat),(bS id H)[j]?=(H[j]?).map (am.kill id)
 | [],j=>by simp[bS]
 | d::r,0=>by simp[bS]
 | d::r,j+1=>by simp[bS,ez id r j]
theorem bR (id:Nat):∀H,(bS id H).length=H.length
 | []=>rfl
 | d::r=>by simp[bS,bR id r]
theorem eB (id:Nat) (B:am):(B.kill id).live=B.live:=by cases B<;>first | rfl | (simp only[am.kill];split<;>rfl)
theorem qo (id:Nat) (B:am):(B.kill id).isRo=B.isRo:=by cases B<;>first | rfl | (simp only[am.kill];split<;>rfl)
def St.kill (id:Nat) (st:St):St:=⟨jE id st.env,bS id st.heap⟩
def bc (H:List am) (id:Nat) (B:am):List am:=if Nat.beq id H.length then H++[B]else H.set id B
theorem eC {H:List am} {id:Nat} {B:am} (M5:id≤H.length) (i:Nat):(bc H id B)[i]?=if i=id then some B else H[i]?:=by
 unfold bc
 cases h:Nat.beq id H.length
 ·have NF:id≠H.length:=fun e=>by rw[e,Nat.beq_refl]at h;cases h
  simp only[Lm,L6]
  by_cases hi:i=id
  ·subst hi
   rw[KT rfl,KY (by omega)]
  ·rw[KK hi,KW (fun e=>hi e.symm)]
 ·simp only[L9]
  rw[KU]at h
  subst h
  by_cases hi:i=H.length
  ·subst hi
   simp
  ·rw[KK hi]
   by_cases hl:i<H.length
   ·rw[KL hl]
   ·rw[Lo (by simp;omega),Lo (by omega)]
section
variable {C:jC} {S:Nat→Prop} {μ:Nat→Value} {st:St} {a:Act} {w w':World}
theorem aK.eval (h:aK C S μ st a w) (x:Operand):ah S μ w (dA st.env x) (a.eval x):=by
 cases x with
 | tmp t =>
  rcases oI (env:=st.env) (t:=t)with h1 | h1
  ·simp only[dA]
   rw[h1]
   exact .junk _
  ·exact(h.env _ _ h1).2
 | const v=>exact ah.ofVal S μ w v
 | func f=>exact .fn _ _ _ #[] #[] rfl (fun j y u hy _=>by simp at hy) rfl (fun j y u hy _=>by simp at hy)
 | global g =>
  show ah S μ w (Cv g) _
  unfold Cv
  split
  ·rename_i p hf
   have hm:=List.mem_of_find?_eq_some hf
   have hg:p.1=g:=by have:=List.find?_some hf;rwa [KU]at this
   obtain⟨p1,cs⟩:=p
   simp only at hg hm ⊢
   subst hg
   obtain⟨h1,h2,h3⟩:=h.glob p1 cs hm
   refine ah.iptr cs 0 p1 0 (fun j=>(w.cell? ⟨p1,j,none⟩).getD undef) h1 h2 (fun j y hy=>?_) (fun j y hy=>?_)
   ·obtain⟨u,hu,_⟩:=h3 j y hy
    rw[Li,hu];rfl
   ·obtain⟨u,hu,hr⟩:=h3 j y hy
    rw[hu];exact hr
  ·exact .junk _
theorem aK.put (h:aK C S μ st a w) {t:Nat} {d:D} {u:Value} (ht:t<C.nt) (hd:ah S μ w d u):aK C S μ ⟨pX st.env t d,st.heap⟩ (a.put (some t) u) w:=by
 refine⟨h.os,h.tape,h.output,h.size,h.old,h.mono,h.new,h.slt,?_,h.heap,h.may,h.defers,by simp[Act.put,h.tsize],h.ro⟩
 intro s e hm
 rcases Lv.1 hm with hm | hm
 ·cases hm
  refine⟨ht,?_⟩
  have:(a.put (some t) u).tmps.getD t undef=u:=by
   have hts:t<a.tmps.size:=by rw[h.tsize];exact ht
   simp[Act.put,hts]
  rw[this]
  exact hd
 ·obtain⟨h1,h2⟩:=ex hm
  obtain⟨q1,q2⟩:=h.env s e h1
  refine⟨q1,?_⟩
  have:(a.put (some t) u).tmps.getD s undef=a.tmps.getD s undef:=by
   simp only[Act.put,Lr]
   rw[Lz (fun e=>h2 e.symm)]
  rw[this]
  exact q2
theorem aK.weak (h:aK C S μ st a w) {env:List (Nat×D)} (he:∀t d,(t,d)∈env→d=.junk∧(∃e,(t,e)∈st.env)∨(t,d)∈st.env):aK C S μ ⟨env,st.heap⟩ a w :=
 ⟨h.os,h.tape,h.output,h.size,h.old,h.mono,h.new,h.slt,fun t d hm=>by
  rcases he t d hm with ⟨rfl,e,h1⟩ | h1
  ·exact⟨(h.env t e h1).1,.junk _⟩
  ·exact h.env t d h1,h.heap,h.may,h.defers,h.tsize,h.ro⟩
theorem ah.killD {d:D} {u:Value} {id:Nat} (h:ah S μ w d u):ah S μ w (killD id d) u:=by
 unfold Proofs.Ytgmpoenfoacofaa.killD
 split
 ·exact h
 ·exact .junk _
theorem az.kill {u:Value} {B:am} {id:Nat} (h:az S μ w u B):az S μ w u (B.kill id):=by
 cases B with
 | dead=>trivial
 | arr E sz enc d l=>exact h
 | ro E sz enc d l=>exact h
 | mpb t ag enc d l=>exact h
 | grp n f=>exact h
 | nest E sz n ce m f=>exact h
 | arrD E sz n gs cell =>
  simp only[am.kill]
  split
  ·exact h
  ·obtain⟨h0,xs,h1,h3⟩:=h
   refine⟨fun i j k hi hj hk=>?_,xs,h1,fun i j hi hj=>?_⟩
   ·show D.free k (if D.free id (cell i j)=true then cell i j else .junk)=true
    split
    ·rename_i hf
     by_cases e:k=id
     ·subst e;exact hf
     ·refine h0 i j k hi hj (K2.2 fun g hg=>?_)
      by_cases e':g=id
      ·subst e'
       exact u4 (fun h=>e h.symm)
      ·exact K2.1 hk g (Mz.2 ⟨hg,u4 e'⟩)
    ·rfl
   ·obtain⟨z,hz,ho,hr⟩:=h3 i j hi hj
    exact⟨z,hz,ho,hr.killD⟩
 | var T cs =>
  obtain⟨b,vs,rfl,h1,h2,h3⟩:=h
  refine⟨b,vs,rfl,h1,by rw[mW];exact h2,fun j y x hy hx=>?_⟩
  rw[tD]at hy
  cases hc:cs[j]? with
  | none=>rw[hc]at hy;cases hy
  | some e =>
   rw[hc]at hy
   simp only[Lj,KP]at hy
   subst hy
   unfold killD
   split
   ·exact h3 j e x hc hx
   ·exact .junk _
 | loop l tm nt env ps assign body state pending =>
  obtain⟨r,rfl,h1,h2,h3,h4,h5,h6,h7,h7',h8⟩:=h
  refine⟨r,rfl,h1,h2,h3,h4,h5,h6,h7,h7',fun t d hm=>?_⟩
  obtain⟨e,q1,rfl⟩:=ey hm
  obtain⟨q2,q3⟩:=h8 t e q1
  refine⟨q2,?_⟩
  exact q3.killD
 | frame tm env =>
  obtain⟨rfl,h8⟩:=h
  refine⟨rfl,fun t d hm=>?_⟩
  obtain⟨e,q1,rfl⟩:=ey hm
  obtain⟨q2,q3⟩:=h8 t e q1
  refine⟨q2,?_⟩
  exact q3.killD
theorem aK.kill (h:aK C S μ st a w) (id:Nat):aK C S μ (st.kill id) a w:=by
 have hg:∀(i:Nat) (A:am),(bS id st.heap)[i]?=some A→∃B,st.heap[i]?=some B∧A=B.kill id:=by
  intro i A hA
  rw[ez]at hA
  cases hc:st.heap[i]? with
  | none=>rw[hc]at hA;cases hA
  | some B=>rw[hc]at hA;simp at hA;exact⟨B,rfl,hA.symm⟩
 refine⟨h.os,h.tape,h.output,h.size,h.old,h.mono,h.new,h.slt,?_,⟨?_,?_,?_⟩,?_,?_,h.tsize,?_⟩
 ·intro t d hm
  obtain⟨e,h1,rfl⟩:=ey hm
  obtain⟨q1,q2⟩:=h.env t e h1
  refine⟨q1,?_⟩
  unfold killD
  split
  ·exact q2
  ·exact .junk _
 ·intro i A hA
  obtain⟨B,hB,rfl⟩:=hg i A hA
  exact(h.heap.box i B hB).kill
 ·intro i j A B b hA hB la lb
  obtain⟨A',Nr,rfl⟩:=hg i A hA
  obtain⟨B',Nf,rfl⟩:=hg j B hB
  rw[eB]at la lb
  exact h.heap.apart i j A' B' b Nr Nf la lb
 ·intro i A b hA la
  obtain⟨A',Nr,rfl⟩:=hg i A hA
  rw[eB]at la
  exact h.heap.notS i A' b Nr la
 ·intro i A b hA la
  obtain⟨A',Nr,rfl⟩:=hg i A hA
  rw[eB]at la
  exact h.may i A' b Nr la
 ·obtain⟨mk,d1,d2,d3⟩:=h.defers
  refine⟨mk,d1,d2,fun b hb=>?_⟩
  obtain⟨q1,q2,q3,q4⟩:=d3 b hb
  refine⟨q1,q2,q3,fun i A hA hl=>?_⟩
  obtain⟨A',Nr,rfl⟩:=hg i A hA
  rw[eB]at hl
  exact q4 i A' Nr hl
 ·intro i A b hA la
  obtain⟨A',Nr,rfl⟩:=hg i A hA
  rw[qo]at la
  exact h.ro i A' b Nr la
theorem aK.upd0 {id:Nat} {B:am} {row:Option Nat} {u:Value} (h:aK C S μ st a w) (hg:w.grownBy w' row) (Ng:∀k,row=some k→∃A,st.heap[id]?=some A∧A.live=true∧bi (μ id) k)
  (M5:id≤st.heap.length) (G':az S (aM μ id u) w' u B) (MX:∀b,bi u b→row=some b∨w.heap.size≤b)
  (N7:μ id=u∨(bj id st.env=true∧aP id st.heap=true)) (Oj:B.isRo=false:=by rfl):aK C S (aM μ id u) ⟨st.env,bc st.heap id B⟩ a w':=by
 have Sz:∀k,row=some k→¬S k:=fun k hk=>by
  obtain⟨A,h1,h2,h3⟩:=Ng k hk
  exact h.heap.notS id A k h1 h2 h3
 have hS:∀b,S b→w'.heap[b]?=w.heap[b]?:=fun b hb=>hg.block b (h.slt b hb) (fun e=>Sz b e.symm hb)
 have hμd:∀d:D,(μ id=u∨D.free id d=true)→∀i,d.free i=false→aM μ id u i=μ i:=by
  intro d hd i hi
  by_cases e:i=id
  ·subst e
   rcases hd with hd | hd
   ·rw[ao];exact hd.symm
   ·rw[hd]at hi;cases hi
  ·exact av _ _ e
 have R5:∀(i:Nat) (A:am),i≠id→st.heap[i]?=some A→A.live=true→∀b,bi (μ i) b→w'.heap[b]?=w.heap[b]?:=by
  intro i A hi hA hl b hb
  refine hg.block b ((h.heap.box i A hA).lt hl b hb) (fun e=>?_)
  obtain⟨A',h1,h2,h3⟩:=Ng b e.symm
  exact hi (h.heap.apart i id A A' b hA h1 hl h2 hb h3)
 refine⟨hg.os.trans h.os,hg.tape.trans h.tape,hg.output.trans h.output,LO h.size hg.size,?_,h.mono,h.new,fun b hb=>LA (h.slt b hb) hg.size,?_,⟨?_,?_,?_⟩,?_,?_,h.tsize,?_⟩
 ·intro k hk
  rw[hg.block k (LA hk h.size) (fun e=>?_)]
  ·exact h.old k hk
  ·obtain⟨A',h1,h2,h3⟩:=Ng k e.symm
   have h4:=h.may id A' k h1 h2 h3
   omega
 ·intro t d hm
  obtain⟨q1,q2⟩:=h.env t d hm
  exact⟨q1,q2.stable (fun _ h _=>h) (fun b hb _=>hS b hb) hg.size (hμd d (N7.imp (fun h=>h) fun hf=>cE hf.1 hm))⟩
 ·intro i A hA
  rw[eC M5]at hA
  by_cases hi:i=id
  ·rw[KT hi]at hA
   cases hA
   subst hi
   rw[ao]
   exact G'
  ·rw[KK hi]at hA
   rw[av _ _ hi]
   have key:(∀b,bi (μ i) b→w'.heap[b]?=w.heap[b]?)→az S (aM μ id u) w' (μ i) A:=fun hbo=>by
    refine(h.heap.box i A hA).stable (fun _ h _=>h) (fun b hb _=>hS b hb) hg.size (fun j hj=>?_) hbo
    by_cases e:j=id
    ·subst e
     rcases N7 with hf | hf
     ·rw[ao];exact hf.symm
     ·rw[b8 hf.2 hA]at hj;cases hj
    ·exact av _ _ e
   rcases A.three with rfl | hl | hl
   ·trivial
   ·exact key (R5 i A hi hA hl)
   ·refine key (fun b hb=>hg.block b ((h.heap.box i A hA).ltR hl b hb) (fun e=>?_))
    obtain⟨A',h1,h2,h3⟩:=Ng b e.symm
    have h4:=h.may id A' b h1 h2 h3
    have h5:=h.ro i A b hA hl hb
    omega
 ·intro i j A A' b hA Nr la QQ hb Nn
  rw[eC M5]at hA Nr
  have key:∀(i j:Nat) (A:am),i≠id→st.heap[i]?=some A→A.live=true→bi (μ i) b→bi u b→False:=by
   intro i j A hi hA la hb hu
   have M6:=(h.heap.box i A hA).lt la b hb
   rcases MX b hu with hr | hr
   ·obtain⟨A',h1,h2,h3⟩:=Ng b hr
    exact hi (h.heap.apart i id A A' b hA h1 la h2 hb h3)
   ·omega
  by_cases hi:i=id
  ·by_cases hj:j=id
   ·rw[hi,hj]
   ·rw[KK hj]at Nr
    rw[av _ _ hj]at Nn
    rw[hi,ao]at hb
    exact(key j i A' hj Nr QQ Nn hb).elim
  ·rw[KK hi]at hA
   rw[av _ _ hi]at hb
   by_cases hj:j=id
   ·rw[hj,ao]at Nn
    exact(key i j A hi hA la hb Nn).elim
   ·rw[KK hj]at Nr
    rw[av _ _ hj]at Nn
    exact h.heap.apart i j A A' b hA Nr la QQ hb Nn
 ·intro i A b hA la hb hSb
  rw[eC M5]at hA
  by_cases hi:i=id
  ·rw[hi,ao]at hb
   rcases MX b hb with hr | hr
   ·exact Sz b hr hSb
   ·have:=h.slt b hSb;omega
  ·rw[KK hi]at hA
   rw[av _ _ hi]at hb
   exact h.heap.notS i A b hA la hb hSb
 ·intro i A b hA la hb
  rw[eC M5]at hA
  by_cases hi:i=id
  ·rw[hi,ao]at hb
   rcases MX b hb with hr | hr
   ·obtain⟨A',h1,h2,h3⟩:=Ng b hr
    exact h.may id A' b h1 h2 h3
   ·exact LO h.size hr
  ·rw[KK hi]at hA
   rw[av _ _ hi]at hb
   exact h.may i A b hA la hb
 ·obtain⟨mk,d1,d2,d3⟩:=h.defers
  refine⟨mk,d1,d2,fun b hb=>?_⟩
  obtain⟨q1,q2,q3,q4⟩:=d3 b hb
  have M6:b<w.heap.size:=(KQ.1 q1).1
  have hnr:some b≠row:=fun e=>by
   obtain⟨A',r1,r2,r3⟩:=Ng b e.symm
   exact q4 id A' r1 r2 r3
  refine⟨by rw[hg.block b M6 hnr];exact q1,q2,q3,fun i A hA hl QU=>?_⟩
  rw[eC M5]at hA
  by_cases hi:i=id
  ·rw[hi,ao]at QU
   rcases MX b QU with hr | hr
   ·exact hnr hr.symm
   ·omega
  ·rw[KK hi]at hA
   rw[av _ _ hi]at QU
   exact q4 i A hA hl QU
 ·intro i A b hA la hb
  rw[eC M5]at hA
  by_cases hi:i=id
  ·rw[KT hi]at hA
   cases hA
   rw[Oj]at la
   cases la
  ·rw[KK hi]at hA
   rw[av _ _ hi]at hb
   exact h.ro i A b hA la hb
theorem aK.upd {id:Nat} {B:am} {row:Option Nat} {u:Value} (h:aK C S μ st a w) (hg:w.grownBy w' row) (Ng:∀k,row=some k→∃A,st.heap[id]?=some A∧A.live=true∧bi (μ id) k)
  (M5:id≤st.heap.length) (G':az S (aM μ id u) w' u B) (MX:∀b,bi u b→row=some b∨w.heap.size≤b)
  (N7:(μ id=u∧(B.isArr=false∨∃A,st.heap[id]?=some A∧A.isArr=true))∨((∀A,st.heap[id]?=some A→A.isArr=true)∧bj id st.env=true∧aP id st.heap=true)) (Oj:B.isRo=false:=by rfl):aK C S (aM μ id u) ⟨st.env,bc st.heap id B⟩ a w':=h.upd0 hg Ng M5 G' MX (N7.imp (fun hf=>hf.1) fun hf=>hf.2) Oj
end
def yc:V→V→Prop
 | .int k a,.int k' b=>if k==k' then a=b else False
 | .bool a,.bool b=>a=b
 | .str a,.str b=>a=b
 | .nilf,.nilf=>True
 | .nsl,.nsl=>True
 | .nsl,.sl _ _ _ l=>l=[]
 | .esl,.esl=>True
 | .esl,.sl _ _ _ l=>l=[]
 | .sl sz enc _ l,.sl Nk MW _ l'=>if Nat.beq sz Nk then l.map enc=l'.map MW else False
 | .sm ag enc _ l,.sm ag' MW _ l'=>if ag==ag' then l.map (fun p=>(p.1,enc p.2))=l'.map (fun p=>(p.1,MW p.2))else False
 | .nmp,.nmp=>True
 | .fnv f,.fnv g=>if Nat.beq f g then True else False
 | .nmp,.sm _ _ _ l=>l=[]
 | _,_=>False
def Cw:V→Prop
 | .nsl=>True
 | _=>False
def EU:D→D→Prop
 | .v x,.v y=>yc x y
 | .nils,.v (.sl _ _ _ l)=>l=[]
 | .nils,.v .nsl=>True
 | .v x,.nils=>Cw x
 | .iptr cs L',.iptr Sl off'=>if Nat.beq L' off' then cs=Sl else False
 | _,.junk=>True
 | x,y=>x=y
def HA:List D→List D→Prop
 | [],[]=>True
 | x::xs,y::ys=>EU x y∧HA xs ys
 | _,_=>False
def xM:D→D→Prop
 | .agg xs,.agg ys=>HA xs ys
 | .tup xs,.tup ys=>HA xs ys
 | x,y=>EU x y
def EN (H:List am):D→D→Prop
 | .own id,.v y=>match H[id]? with
  | some (.arr _ sz enc d l)=>yc (.sl sz enc d l) y
  | _=>False
 | x,y=>EU x y
def HB (H:List am):List D→List D→Prop
 | [],[]=>True
 | x::xs,y::ys=>EN H x y∧HB H xs ys
 | _,_=>False
def Gd (H:List am):D→D→Prop
 | .agg xs,.agg ys=>HB H xs ys
 | x,y=>EN H x y
def HC (H:List am):List D→List D→Prop
 | [],[]=>True
 | x::xs,y::ys=>Gd H x y∧HC H xs ys
 | _,_=>False
def wu (H:List am):List D→Option (List V)
 | []=>some []
 | .v x::r=>match wu H r with | some xs=>some (x::xs) | none=>none
 | .nils::r=>match wu H r with | some xs=>some (.nsl::xs) | none=>none
 | .own id::r=>match H[id]? with
  | some (.arr _ sz enc d l)=>(match wu H r with | some xs=>some (.sl sz enc d l::xs) | none=>none)
  | some (.ro _ sz enc d l)=>(match wu H r with | some xs=>some (.sl sz enc d l::xs) | none=>none)
  | _=>none
 | _=>none
def Hp (H:List am):D→D→Prop
 | .ptr id i _ L',.iptr cs o=>match H[id]? with
  | some (.var _ bcs)=>(match Nat.beq i 0&&Nat.beq L' o,wu H bcs with | true,some vs=>vs=cs | _,_=>False)
  | _=>False
 | .own id,.v y=>match H[id]? with
  | some (.arrD _ sz n _ cell)=>sz=1∧∃(g m:Nat) (f:Nat→xL) (E2 Qv:Nat) (β:Type) (Oa:β→List V) (d2:β) (l:List (List β)),H[g]?=some (.grp m f)∧n=l.length∧n≤m∧(∀i,i<n→cell i 0=.gr g i∧f i=⟨E2,Qv,β,Oa,d2,l.getD i []⟩)∧yc (.sl 1 (fun r=>[V.sl Qv Oa d2 r]) [] l) y
  | some (.ro _ sz enc d l)=>yc (.sl sz enc d l) y
  | _=>EN H (.own id) (.v y)
 | x,y=>EN H x y
def HD (H:List am):List D→List D→Prop
 | [],[]=>True
 | x::xs,y::ys=>Hp H x y∧HD H xs ys
 | _,_=>False
def IW (H:List am):D→D→Prop
 | .agg xs,.agg ys=>HB H xs ys
 | .fn f a b,.fn f' a' b'=>f=f'∧HD H a a'∧HD H b b'
 | x,y=>Hp H x y
def tE (H:List am):List D→List D→Prop
 | [],[]=>True
 | x::xs,y::ys=>IW H x y∧tE H xs ys
 | _,_=>False
def D.isOwn:D→Bool
 | .own _=>true
 | .ptr _ _ _ _=>true
 | _=>false
def d7:List D→Bool
 | []=>true
 | .own _::_=>false
 | .ptr _ _ _ _::_=>false
 | .agg cs::r=>cs.all (fun c=>!c.isOwn)&&d7 r
 | .fn _ a b::r=>a.all (fun c=>!c.isOwn)&&(b.all (fun c=>!c.isOwn)&&d7 r)
 | _::r=>d7 r
def am.mem:am→Bool
 | .arr _ _ _ _ _=>true
 | .var _ _=>true
 | .arrD _ _ _ _ _=>true
 | .grp _ _=>true
 | .ro _ _ _ _ _=>true
 | _=>false
theorem az.ltM {S:Nat→Prop} {μ:Nat→Value} {w:World} {u:Value} {B:am} (h:az S μ w u B) (hm:B.mem=true):∀b,bi u b→b<w.heap.size:=by
 cases B<;>first | (cases hm;done) | exact h.lt rfl | exact h.ltR rfl
theorem am.arr_mem {B:am} (h:B.isArr=true):B.mem=true:=by cases B<;>first | rfl | cases h
mutual
def da:D→Bool
 | .own _=>false
 | .ptr _ _ _ _=>false
 | .agg cs=>mm cs
 | .tup cs=>mm cs
 | .fn _ a b=>mm a&&mm b
 | .yld _=>false
 | .gr _ _=>false
 | .pre _ _ _ _ _ _=>false
 | _=>true
def mm:List D→Bool
 | []=>true
 | c::cs=>da c&&mm cs
end
mutual
theorem eD (id:Nat):∀d:D,da d=true→D.free id d=true
 | .own _,h=>by simp[da]at h
 | .ptr _ _ _ _,h=>by simp[da]at h
 | .agg cs,h=>by simp only[da]at h;simp only[D.free];exact fg id cs h
 | .tup cs,h=>by simp only[da]at h;simp only[D.free];exact fg id cs h
 | .fn _ a b,h=>by
  simp only[da,KD]at h
  simp only[D.free,KD]
  exact⟨fg id a h.1,fg id b h.2⟩
 | .yld _,h=>by simp[da]at h
 | .gr _ _,h=>by simp[da]at h
 | .v _,_=>rfl
 | .nils,_=>rfl
 | .iptr _ _,_=>rfl
 | .capd _,_=>rfl
 | .junk,_=>rfl
theorem fg (id:Nat):∀cs:List D,mm cs=true→D.freeL id cs=true
 | [],_=>rfl
 | c::cs,h=>by
  simp only[mm,KD]at h
  simp only[D.freeL,KD]
  exact⟨eD id c h.1,fg id cs h.2⟩
end
def ai (P:Program) (f:FuncId) (q':List D) (H:List am) (al:Bool) (r:D) (H':List am):Prop :=
 ∀(S:Nat→Prop) (μ:Nat→Value) (w:World) (us:Array Value),(∀b,S b→b<w.heap.size)→er S w→aV S μ w H→aE S μ w q' us →
  Calls P f us w (fun e w'=>∃(u:Value) (μ':Nat→Value) (S':Nat→Prop),e=.returned u∧w'.os=w.os∧w'.tape=w.tape∧w'.output=w.output∧w.heap.size≤w'.heap.size ∧
   (∀k,k<w.heap.size→(∀(i:Nat) (A:am),H[i]?=some A→A.live=true→¬bi (μ i) k)→w'.heap[k]?=w.heap[k]?) ∧
   (∀b,S b→S' b)∧(∀b,S' b→S b∨w.heap.size≤b)∧(∀b,S' b→b<w'.heap.size) ∧
   ah (fun b=>S' b∧(al=true∨w.heap.size≤b)) μ' w' r u∧aV S' μ' w' H' ∧
   (∀(i:Nat) (A:am) (b:Nat),H'[i]?=some A→A.live=true→bi (μ' i) b→w.heap.size≤b∨∃(j:Nat) (A':am),H[j]?=some A'∧A'.live=true∧bi (μ j) b) ∧
   (∀(i:Nat) (A:am),H[i]?=some A→A.isArr=false→A.live=true→μ' i=μ i))
section
variable {P:Program} {S:Nat→Prop} {μ:Nat→Value} {w:World}
theorem qp {α β:Type _} {f:α→β} {l:List α} {i:Nat} {x:α} (h:l[i]?=some x):(l.map f)[i]?=some (f x):=by rw[KX,h];rfl
theorem cO {α β:Type _} {f:α→β} {l:List α} {i:Nat} {y:β} (h:(l.map f)[i]?=some y):∃x,l[i]?=some x∧f x=y:=by
 rw[KX]at h
 cases hx:l[i]? with
 | none=>rw[hx]at h;cases h
 | some x=>rw[hx]at h;simp at h;exact⟨x,rfl,h⟩
theorem A9 {sz:Nat} {α β:Type} {enc:α→List V} {d:α} {l:List α} {MW:β→List V} {d':β} {l':List β} {u:Value} (h:ci S w (.sl sz enc d l) u) (he:l.map enc=l'.map MW) :
  ci S w (.sl sz MW d' l') u:=by
 have MZ:l.length=l'.length:=by have:=congrArg List.length he;simpa using this
 obtain⟨p,c,rfl,h1,h2,h3,h4⟩:=dY h
 refine jR MZ (by omega) h2 h3 (fun h0=>?_)
 obtain⟨b,L',us,q1,q2,q3,q4,q5,q6⟩:=h4 (by omega)
 have back:∀(i:Nat) (x:β),l'[i]?=some x→∃y,l[i]?=some y∧enc y=MW x:=fun i x hx=>cO (by rw[he];exact qp hx)
 refine⟨b,L',us,q1,q2,q3,fun i x hx=>?_,fun i x j y hx hy=>?_,fun i x j y hx hy=>?_⟩
 ·obtain⟨z,hz,e⟩:=back i x hx
  rw[← e];exact q4 i z hz
 ·obtain⟨z,hz,e⟩:=back i x hx
  exact q5 i z j y hz (by rw[e];exact hy)
 ·obtain⟨z,hz,e⟩:=back i x hx
  exact q6 i z j y hz (by rw[e];exact hy)
theorem Ba {ag:Bool} {α β:Type} {enc:α→List V} {MW:β→List V} {d:α} {d':β} {l:List (ByteArray×α)} {l':List (ByteArray×β)} {u:Value} (h:ci S w (.sm ag enc d l) u) (he:l.map (fun p=>(p.1,enc p.2))=l'.map (fun p=>(p.1,MW p.2))):ci S w (.sm ag MW d' l') u:=by
 have MZ:l.length=l'.length:=by have:=congrArg List.length he;simpa using this
 have back:∀(i:Nat) (k:ByteArray) (y:β),l'[i]?=some (k,y)→∃x,l[i]?=some (k,x)∧enc x=MW y:=fun i k y hy=>by
  have h1:(l'.map (fun p=>(p.1,MW p.2)))[i]?=some (k,MW y):=by rw[KX,hy];rfl
  rw[← he,KX]at h1
  cases hq:l[i]? with
  | none=>rw[hq]at h1;cases h1
  | some q =>
   rw[hq]at h1
   simp only[Lj,KP,KJ]at h1
   exact⟨q.2,by rw[← h1.1],h1.2⟩
 cases h with
 | smn =>
  have:l'=[]:=La (by rw[← MZ];rfl)
  subst this
  exact .smn _ _ _
 | sm _ _ _ _ b clock arr us h1 h2 h3 h4 h5 h6 =>
  refine .sm _ _ _ _ b clock arr us h1 h2 h3 (by rw[h4,MZ]) (fun i k y hy=>?_) (fun i k y j z hy hz=>?_)
  ·obtain⟨x,hx,e⟩:=back i k y hy
   rw[← e];exact h5 i k x hx
  ·obtain⟨x,hx,e⟩:=back i k y hy
   exact h6 i k x j z hx (by rw[e];exact hz)
theorem mX {x y:V} {u:Value} (he:yc x y) (h:ci S w x u):ci S w y u:=by
 unfold yc at he
 split at he
 ·split at he
  ·rename_i hk
   rw[beq_iff_eq]at hk
   subst he hk
   exact h
  ·exact he.elim
 ·subst he;exact h
 ·subst he;exact h
 ·exact h
 ·exact h
 ·subst he;cases h;exact .nil _ _ _ _ _ (by simp[maxLen]) (fun _=>rfl)
 ·exact h
 ·subst he;cases h with
  | esl p c hc=>exact .nil _ _ _ _ _ hc (fun h=>by cases h)
 ·split at he
  ·rename_i hs
   rw[KU]at hs
   subst hs
   exact A9 h he
  ·exact he.elim
 ·split at he
  ·rename_i hs
   rw[beq_iff_eq]at hs
   subst hs
   exact Ba h he
  ·exact he.elim
 ·exact h
 ·split at he
  ·rename_i hk
   rw[KU]at hk
   subst hk;exact h
  ·exact he.elim
 ·subst he;cases h;exact .smn _ _ _
 ·exact he.elim
theorem qq {x y:D} {u:Value} (he:EU x y) (h:ah S μ w x u):ah S μ w y u:=by
 unfold EU at he
 split at he
 ·exact .v _ _ (mX he (ba h))
 ·subst he
  cases h
  exact .v _ _ (.nil _ _ _ _ _ (by simp[maxLen]) (fun _=>rfl))
 ·cases h
  exact .v _ _ .nsl
 ·have h:=ba h
  unfold Cw at he
  split at he
  ·cases h;exact .nils
  ·exact he.elim
 ·split at he
  ·rename_i hs
   rw[KU]at hs
   subst he hs
   exact h
  ·exact he.elim
 ·exact .junk _
 ·subst he;exact h
theorem zt:∀{xs ys:List D} {us:Array Value},HA xs ys→aE S μ w xs us→aE S μ w ys us
 | xs,ys,us,he,h=>by
  have key:∀(xs ys:List D),HA xs ys→xs.length=ys.length∧∀(j:Nat) (y:D),ys[j]?=some y→∃x,xs[j]?=some x∧EU x y:=by
   intro xs
   induction xs with
   | nil =>
    intro ys h
    cases ys with
    | nil=>exact⟨rfl,fun j y hy=>by simp at hy⟩
    | cons _ _=>exact h.elim
   | cons x xs ih =>
    intro ys h
    cases ys with
    | nil=>exact h.elim
    | cons y ys =>
     obtain⟨h1,h2⟩:=ih ys h.2
     refine⟨by simp[h1],fun j z hz=>?_⟩
     cases j with
     | zero=>simp at hz;subst hz;exact⟨x,rfl,h.1⟩
     | succ j=>simpa using h2 j z (by simpa using hz)
  obtain⟨h1,h2⟩:=key xs ys he
  exact⟨by rw[← h1];exact h.1,fun j y u hy hu=>by
   obtain⟨x,hx,Px⟩:=h2 j y hy
   exact qq Px (h.2 j x u hx hu)⟩
theorem mY {x y:D} {u:Value} (he:xM x y) (h:ah S μ w x u):ah S μ w y u:=by
 unfold xM at he
 split at he
 ·obtain⟨us,rfl,h1,h2⟩:=dr h
  obtain⟨q1,q2⟩:=zt he ⟨h1,h2⟩
  exact .agg _ _ q1 q2
 ·obtain⟨us,rfl,h1,h2⟩:=ql h
  obtain⟨q1,q2⟩:=zt he ⟨h1,h2⟩
  exact .tup _ _ q1 q2
 ·exact qq he h
theorem EV {S':Nat→Prop} {t:TypeId} {ag:Bool} {α:Type} {enc:α→List V} {d:α} {l:List (ByteArray×α)} {u:Value} (h:az S μ w u (.mpb t ag enc d l)) (hS:∀b,S b→S' b) (MT:∀b,bi u b→S' b):ci S' w (.sm ag enc d l) u:=by
 obtain⟨b,arr,clock,rfl,hb,hl,hh⟩:=h
 have st:∀{y:V} {z:Value},ci S w y z→ci S' w y z:=fun h=>h.stable (fun b hb _=>hS b hb) (fun _ _ _=>rfl) (KI _)
 refine .sm ag enc d l b clock arr (fun i j=>if ag=true then (match (arr.getD i default).val with | .agg a=>a.getD j undef | _=>undef)else (arr.getD i default).val) (MT b (.inl rfl)) (KQ.1 hb).1 hb hl (fun i k x hx=>?_) (fun i k x j y hx hy=>?_)
 ·obtain⟨e,e1,e2,e3,e4⟩:=hh i k x hx
  refine⟨e,e1,e2,?_⟩
  have hg:arr.getD i default=e:=by simp[Lr,e1]
  unfold zm
  cases ag
  ·simp only[Lm,L6]
   exact⟨e3 rfl,by rw[hg]⟩
  ·simp only[L9]
   obtain⟨a,ha,h1,h2⟩:=dr (show ah S μ w (.agg ((enc x).map D.v)) e.val from e4)
   rw[KM]at h1
   refine⟨a,ha,h1,fun j hj=>?_⟩
   rw[hg,ha]
   simp[Lr,K0 (show j<a.size by omega)]
 ·obtain⟨e,e1,e2,e3,e4⟩:=hh i k x hx
  have hg:arr.getD i default=e:=by simp[Lr,e1]
  cases ag
  ·simp only[Lm,L6]
   rw[hg]
   have OS:=e3 rfl
   have hj:j=0:=by have:=(KE.1 hy).1;omega
   subst hj
   match hq:enc x,OS,hy with
   | [y'],_,hy =>
    cases hy
    have e4:ah S μ w (iX false (enc x)) e.val:=e4
    rw[hq]at e4
    exact st (ba e4)
  ·simp only[L9]
   obtain⟨a,ha,h1,h2⟩:=dr (show ah S μ w (.agg ((enc x).map D.v)) e.val from e4)
   rw[KM]at h1
   have hj:=(KE.1 hy).1
   rw[hg,ha]
   have hu:a[j]?=some (a.getD j undef):=by simp[Lr,K0 (show j<a.size by omega)]
   exact st (ba (h2 j (.v y) _ (by rw[KX,hy];rfl) hu))
theorem rh {S':Nat→Prop} {E sz:Nat} {α:Type} {enc:α→List V} {d:α} {l:List α} {u:Value} (h:az S μ w u (.arr E sz enc d l)) (hS:∀b,S b→S' b) (MT:∀b,bi u b→S' b):ci S' w (.sl sz enc d l) u:=by
 have M6:=h.lt rfl
 obtain⟨p,c,hu,q1,q2,q3,q4⟩:=bv h
 subst hu
 refine jR rfl q1 q2 q3 (fun h0=>?_)
 obtain⟨g,rfl⟩:=q4 h0
 obtain⟨r1,xs,r2,r3⟩:=h
 refine⟨g,0,fun i j=>xs.getD (i*sz+j) undef,rfl,MT g (.inl rfl),M6 g (.inl rfl),r1,fun i x j y hx hy=>?_,fun i x j y hx hy=>?_⟩
 ·obtain⟨z,hz,_⟩:=r3 i x j y hx hy
  rw[Li,ir r2 (b:=g) rfl _ _ hz]
  simp[List.getD,hz]
 ·obtain⟨z,hz,hr⟩:=r3 i x j y hx hy
  have:xs.getD (i*sz+j) undef=z:=by simp[List.getD,hz]
  show ci S' w y (xs.getD (i*sz+j) undef)
  rw[this]
  exact hr.stable (fun b hb _=>hS b hb) (fun _ _ _=>rfl) (KI _)
theorem db {S':Nat→Prop} {E sz:Nat} {α:Type} {enc:α→List V} {d:α} {l:List α} {u:Value} (h:az S μ w u (.arr E sz enc d l)) (hS:∀b,S b→S' b) (MT:∀b,bi u b→S' b)
  (Nu:∀b,S b→b<w.heap.size):ci S' w (.sl sz enc d l) u:=by
 have M6:=h.lt rfl
 obtain⟨p,c,hu,q1,q2,q3,q4⟩:=bv h
 subst hu
 refine jR rfl q1 q2 q3 (fun h0=>?_)
 obtain⟨g,rfl⟩:=q4 h0
 obtain⟨r1,xs,r2,r3⟩:=h
 refine⟨g,0,fun i j=>xs.getD (i*sz+j) undef,rfl,MT g (.inl rfl),M6 g (.inl rfl),r1,fun i x j y hx hy=>?_,fun i x j y hx hy=>?_⟩
 ·obtain⟨z,hz,_⟩:=r3 i x j y hx hy
  rw[Li,ir r2 (b:=g) rfl _ _ hz]
  simp[List.getD,hz]
 ·obtain⟨z,hz,hr⟩:=r3 i x j y hx hy
  have:xs.getD (i*sz+j) undef=z:=by simp[List.getD,hz]
  show ci S' w y (xs.getD (i*sz+j) undef)
  rw[this]
  exact hr.stable (fun b hb _=>hS b hb) (fun _ _ _=>rfl) (KI _)
theorem kL {H:List am} {S':Nat→Prop} (hH:aV S μ w H) (hS:∀b,S b→S' b) (Nu:∀b,S b→b<w.heap.size) {x y:D} (MT:(∀(i:Nat) (A:am) (b:Nat),H[i]?=some A→A.isArr=true→bi (μ i) b→S' b)∨x.isOwn=false) {u:Value} (he:EN H x y) (h:ah S μ w x u):ah S' μ w y u:=by
 unfold EN at he
 split at he
 ·rename_i id y
  split at he
  ·rename_i E sz α enc d l hb
   have hu:=a6 h
   subst hu
   have ho:∀b,bi (μ id) b→S' b:=fun b Nn=>by
    rcases MT with MT | MT
    ·exact MT id _ b hb rfl Nn
    ·cases MT
   exact .v _ _ (mX he (db (hH.box id _ hb) hS ho Nu))
  ·exact he.elim
 ·exact qq he (h.stable (fun b hb _=>hS b hb) (fun _ _ _=>rfl) (KI _) (fun _ _=>rfl))
theorem qr {H:List am}:∀{xs ys:List D},HB H xs ys→xs.length=ys.length∧∀(j:Nat) (y:D),ys[j]?=some y→∃x,xs[j]?=some x∧EN H x y
 | [],[],_=>⟨rfl,fun j y hy=>by simp at hy⟩
 | [],_::_,h=>h.elim
 | _::_,[],h=>h.elim
 | x::xs,y::ys,h=>by
  obtain⟨h1,h2⟩:=qr h.2
  refine⟨by simp[h1],fun j z hz=>?_⟩
  cases j with
  | zero=>simp at hz;subst hz;exact⟨x,rfl,h.1⟩
  | succ j=>simpa using h2 j z (by simpa using hz)
theorem u5 {H:List am}:∀{xs ys:List D},HC H xs ys→xs.length=ys.length∧∀(j:Nat) (y:D),ys[j]?=some y→∃x,xs[j]?=some x∧Gd H x y
 | [],[],_=>⟨rfl,fun j y hy=>by simp at hy⟩
 | [],_::_,h=>h.elim
 | _::_,[],h=>h.elim
 | x::xs,y::ys,h=>by
  obtain⟨h1,h2⟩:=u5 h.2
  refine⟨by simp[h1],fun j z hz=>?_⟩
  cases j with
  | zero=>simp at hz;subst hz;exact⟨x,rfl,h.1⟩
  | succ j=>simpa using h2 j z (by simpa using hz)
theorem eE:∀{l:List D},d7 l=true→∀(j:Nat) (x:D),l[j]?=some x→x.isOwn=false∧(∀cs,x=.agg cs→∀c∈cs,D.isOwn c=false)∧∀f a b,x=.fn f a b→(∀c∈a,D.isOwn c=false)∧∀c∈b,D.isOwn c=false
 | [],_,j,x,hx=>by simp at hx
 | d::l,h,j,x,hx=>by
  have hl:d7 l=true:=by
   cases d<;>simp_all [d7]
  cases j with
  | zero =>
   simp at hx
   subst hx
   refine⟨by cases d<;>first | rfl | (simp[d7]at h),?_,?_⟩
   ·rintro cs rfl c hc
    simp only[d7,KD,K2]at h
    simpa using h.1 c hc
   ·rintro f a b rfl
    simp only[d7,KD,K2]at h
    exact⟨fun c hc=>by simpa using h.1 c hc,fun c hc=>by simpa using h.2.1 c hc⟩
  | succ j=>exact eE hl j x (by simpa using hx)
theorem EW {H:List am} {S':Nat→Prop} (hH:aV S μ w H) (hS:∀b,S b→S' b) (Nu:∀b,S b→b<w.heap.size) {ds q':List D}
  (MT:(∀(i:Nat) (A:am) (b:Nat),H[i]?=some A→A.isArr=true→bi (μ i) b→S' b)∨d7 ds=true) {us:Array Value} (he:HC H ds q') (h:aE S μ w ds us):aE S' μ w q' us:=by
 obtain⟨h1,h2⟩:=u5 he
 refine⟨by rw[← h1];exact h.1,fun j y u hy hu=>?_⟩
 obtain⟨x,hx,Px⟩:=h2 j y hy
 have OZ:=h.2 j x u hx hu
 unfold Gd at Px
 split at Px
 ·rename_i xs ys
  obtain⟨vs,rfl,q1,q2⟩:=dr OZ
  obtain⟨r1,r2⟩:=qr Px
  refine .agg _ _ (by rw[← r1];exact q1) (fun k z v hz hv=>?_)
  obtain⟨x',Pk,P7⟩:=r2 k z hz
  exact kL hH hS Nu (MT.imp id fun hn=>(eE hn j _ hx).2.1 _ rfl x' (Lb Pk)) P7 (q2 k x' v Pk hv)
 ·exact kL hH hS Nu (MT.imp id fun hn=>(eE hn j _ hx).1) Px OZ
theorem wv {H:List am} {S':Nat→Prop} (hH:aV S μ w H) (hS:∀b,S b→S' b) (Nu:∀b,S b→b<w.heap.size) (MT:∀(i:Nat) (A:am) (b:Nat),H[i]?=some A→A.mem=true→bi (μ i) b→S' b) :
  ∀{cs:List D} {vs:List V},wu H cs=some vs→vs.length=cs.length∧∀(j:Nat) (y:V),vs[j]?=some y→∃x,cs[j]?=some x∧∀u,ah S μ w x u→ci S' w y u
 | [],vs,h=>by cases h;exact⟨rfl,fun j y hy=>by simp at hy⟩
 | c::r,vs,h=>by
  have key:∃y0 ys,vs=y0::ys∧wu H r=some ys∧∀u,ah S μ w c u→ci S' w y0 u:=by
   unfold wu at h
   split at h
   ·rename_i he
    cases he
   ·rename_i x r' he
    cases he
    split at h
    ·rename_i xs R6
     cases h
     exact⟨_,_,rfl,R6,fun u hu=>(ba hu).stable (fun b hb _=>hS b hb) (fun _ _ _=>rfl) (KI _)⟩
    ·cases h
   ·rename_i r' he
    cases he
    split at h
    ·rename_i xs R6
     cases h
     exact⟨_,_,rfl,R6,fun u hu=>by cases hu;exact .nsl⟩
    ·cases h
   ·rename_i id r' he
    cases he
    split at h
    ·rename_i E sz α enc d l hb
     split at h
     ·rename_i xs R6
      cases h
      exact⟨_,_,rfl,R6,fun u hu=>by rw[a6 hu];exact db (hH.box id _ hb) hS (fun b Nn=>MT id _ b hb rfl Nn) Nu⟩
     ·cases h
    ·rename_i E sz α enc d l hb
     split at h
     ·rename_i xs R6
      cases h
      exact⟨_,_,rfl,R6,fun u hu=>by rw[a6 hu];exact db (hH.box id _ hb).ro_arr hS (fun b Nn=>MT id _ b hb rfl Nn) Nu⟩
     ·cases h
    ·cases h
   ·cases h
  obtain⟨y0,ys,rfl,h1,h2⟩:=key
  obtain⟨q1,q2⟩:=wv hH hS Nu MT h1
  refine⟨by simp[q1],fun j y hy=>?_⟩
  cases j with
  | zero=>simp at hy;subst hy;exact⟨c,rfl,h2⟩
  | succ j=>simpa using q2 j y (by simpa using hy)
theorem u6 {H:List am} {S':Nat→Prop} (hH:aV S μ w H) (hS:∀b,S b→S' b) (Nu:∀b,S b→b<w.heap.size) {x y:D} (MT:(∀(i:Nat) (A:am) (b:Nat),H[i]?=some A→A.mem=true→bi (μ i) b→S' b)∨x.isOwn=false) {u:Value} (he:Hp H x y) (h:ah S μ w x u):ah S' μ w y u:=by
 unfold Hp at he
 split at he
 ·rename_i id i sz L' cs o
  split at he
  ·rename_i T bcs hb
   have N9:∀(i:Nat) (A:am) (b:Nat),H[i]?=some A→A.mem=true→bi (μ i) b→S' b:=by
    rcases MT with MT | MT
    ·exact MT
    ·cases MT
   split at he
   ·rename_i vs hc hv
    subst he
    simp only[KD,KU]at hc
    obtain⟨rfl,rfl⟩:=hc
    obtain⟨b,Oe,rfl⟩:=kK h
    obtain⟨b',us,hu,h1,h2,h3⟩:=hH.box id _ hb
    rw[hu]at Oe
    simp[bi,aA]at Oe
    subst Oe
    obtain⟨q1,q2⟩:=wv hH hS Nu N9 hv
    have M6:b'<w.heap.size:=(KQ.1 h1).1
    have:=ah.iptr (S:=S') (μ:=μ) (w:=w) vs L' b' 0 (fun j=>us.getD j undef) (N9 id _ b' hb rfl (by rw[hu];exact .inl rfl)) M6 (fun j y hy=>?_) (fun j y hy=>?_)
    ·simpa using this
    ·have hj:j<us.size:=by rw[h2,← q1];exact(KE.1 hy).1
     unfold World.cell?
     simp only[Li,h1]
     simp[Array.getD,hj]
    ·obtain⟨x,hx,hr⟩:=q2 j y hy
     have hj:j<us.size:=by rw[h2,← q1];exact(KE.1 hy).1
     have N2:us[j]?=some (us.getD j undef):=by simp[Array.getD,hj]
     exact hr _ (h3 j x _ hx N2)
   ·exact he.elim
  ·exact he.elim
 ·rename_i id y
  split at he
  ·rename_i E sz n gs cell hb
   obtain⟨rfl,g,m,f,E2,Qv,β,Oa,d2,l,hg,rfl,PO,NL,hy⟩:=he
   have N9:∀(i:Nat) (A:am) (b:Nat),H[i]?=some A→A.mem=true→bi (μ i) b→S' b:=by
    rcases MT with MT | MT
    ·exact MT
    ·cases MT
   have hu:=a6 h
   subst hu
   obtain⟨r0,xs,r1,r2⟩:=hH.box id _ hb
   obtain⟨us,hgu,M0,Ng,_⟩:=hH.box g _ hg
   have hB:az S' μ w (μ id) (.arr E 1 (fun r=>[V.sl Qv Oa d2 r]) [] l):=by
    refine⟨fun i x _=>rfl,xs,r1,fun i x j v hx hv=>?_⟩
    have hi:i<l.length:=(KE.1 hx).1
    have hj:j=0:=by
     have:=(KE.1 hv).1
     simp at this
     omega
    subst hj
    simp only[List.getElem?_cons_zero,KP]at hv
    subst hv
    obtain⟨z,hz,_,hd⟩:=r2 i 0 hi (by omega)
    rw[(NL i hi).1]at hd
    refine⟨z,hz,?_⟩
    cases hd with
    | gr _ _ N8 _ h1 h2 h3 =>
     rw[hgu]at h1
     cases h1
     have hrr:=(Ng i z h2).2
     rw[(NL i hi).2,show l.getD i []=x by rw[eX _ _ hi];exact(KE.1 hx).2]at hrr
     exact rh (μ:=μ) (E:=E2) hrr hS (fun b Nn=>N9 g _ b hg rfl (by
      rw[hgu]
      exact .inr ⟨us,rfl,i,z,h2,Nn.bl h3⟩))
   exact .v _ _ (mX hy (rh hB (fun _ h=>h) (fun b Nn=>N9 id _ b hb rfl Nn)))
  ·rename_i E sz α enc d l hb
   have hu:=a6 h
   subst hu
   rcases MT with MT | MT
   ·exact .v _ _ (mX he (db (hH.box id _ hb).ro_arr hS (fun b Nn=>MT id _ b hb rfl Nn) Nu))
   ·cases MT
  ·exact kL hH hS Nu (MT.imp (fun hn i A b h1 h2 h3=>hn i A b h1 (am.arr_mem h2) h3) (fun z=>z)) he h
 ·exact kL hH hS Nu (MT.imp (fun hn i A b h1 h2 h3=>hn i A b h1 (am.arr_mem h2) h3) id) he h
theorem u7 {H:List am}:∀{xs ys:List D},HD H xs ys→xs.length=ys.length∧∀(j:Nat) (y:D),ys[j]?=some y→∃x,xs[j]?=some x∧Hp H x y
 | [],[],_=>⟨rfl,fun j y hy=>by simp at hy⟩
 | [],_::_,h=>h.elim
 | _::_,[],h=>h.elim
 | x::xs,y::ys,h=>by
  obtain⟨h1,h2⟩:=u7 h.2
  refine⟨by simp[h1],fun j z hz=>?_⟩
  cases j with
  | zero=>simp at hz;subst hz;exact⟨x,rfl,h.1⟩
  | succ j=>simpa using h2 j z (by simpa using hz)
theorem zu {H:List am}:∀{xs ys:List D},tE H xs ys→xs.length=ys.length∧∀(j:Nat) (y:D),ys[j]?=some y→∃x,xs[j]?=some x∧IW H x y
 | [],[],_=>⟨rfl,fun j y hy=>by simp at hy⟩
 | [],_::_,h=>h.elim
 | _::_,[],h=>h.elim
 | x::xs,y::ys,h=>by
  obtain⟨h1,h2⟩:=zu h.2
  refine⟨by simp[h1],fun j z hz=>?_⟩
  cases j with
  | zero=>simp at hz;subst hz;exact⟨x,rfl,h.1⟩
  | succ j=>simpa using h2 j z (by simpa using hz)
theorem i3 {H:List am} {S':Nat→Prop} (hH:aV S μ w H) (hS:∀b,S b→S' b) (Nu:∀b,S b→b<w.heap.size) {ds q':List D}
  (MT:(∀(i:Nat) (A:am) (b:Nat),H[i]?=some A→A.mem=true→bi (μ i) b→S' b)∨d7 ds=true) {us:Array Value} (he:tE H ds q') (h:aE S μ w ds us):aE S' μ w q' us:=by
 obtain⟨h1,h2⟩:=zu he
 refine⟨by rw[← h1];exact h.1,fun j y u hy hu=>?_⟩
 obtain⟨x,hx,Px⟩:=h2 j y hy
 have OZ:=h.2 j x u hx hu
 unfold IW at Px
 split at Px
 ·rename_i xs ys
  obtain⟨vs,rfl,q1,q2⟩:=dr OZ
  obtain⟨r1,r2⟩:=qr Px
  refine .agg _ _ (by rw[← r1];exact q1) (fun k z v hz hv=>?_)
  obtain⟨x',Pk,P7⟩:=r2 k z hz
  refine kL hH hS Nu ?_ P7 (q2 k x' v Pk hv)
  rcases MT with MT | hn
  ·exact .inl (fun i A b h1 h2 h3=>MT i A b h1 (am.arr_mem h2) h3)
  ·exact .inr ((eE hn j _ hx).2.1 _ rfl x' (Lb Pk))
 ·rename_i f a b f' a' b'
  obtain⟨rfl,ha,hb⟩:=Px
  obtain⟨a1,a2⟩:=u7 ha
  obtain⟨b1,b2⟩:=u7 hb
  cases OZ with
  | fn _ _ _ us vs q1 q2 q3 q4 =>
   refine .fn _ _ _ us vs (by rw[← a1];exact q1) (fun k z v hz hv=>?_) (by rw[← b1];exact q3) (fun k z v hz hv=>?_)
   ·obtain⟨x',Pk,P7⟩:=a2 k z hz
    exact u6 hH hS Nu (MT.imp id fun hn=>((eE hn j _ hx).2.2 _ _ _ rfl).1 x' (Lb Pk)) P7 (q2 k x' v Pk hv)
   ·obtain⟨x',Pk,P7⟩:=b2 k z hz
    exact u6 hH hS Nu (MT.imp id fun hn=>((eE hn j _ hx).2.2 _ _ _ rfl).2 x' (Lb Pk)) P7 (q4 k x' v Pk hv)
 ·exact u6 hH hS Nu (MT.imp id fun hn=>(eE hn j _ hx).1) Px OZ
end
section
variable {C:jC} {S:Nat→Prop} {μ:Nat→Value} {st:St} {a:Act} {w w':World}
theorem aK.grow (h:aK C S μ st a w) {S':Nat→Prop} (h1:w'.os=w.os) (h2:w'.tape=w.tape) (h3:w'.output=w.output) (h4:w.heap.size≤w'.heap.size) (h5:∀k,k<w.heap.size→w'.heap[k]?=w.heap[k]?)
  (h6:∀b,S b→S' b) (h7:∀b,S' b→S b∨w.heap.size≤b) (h8:∀b,S' b→b<w'.heap.size):aK C S' μ st a w':=by
 have MX:∀(i:Nat) (A:am),st.heap[i]?=some A→A.live=true→∀b,bi (μ i) b→w'.heap[b]?=w.heap[b]?:=fun i A hA hl b hb=>h5 b ((h.heap.box i A hA).lt hl b hb)
 refine⟨h1.trans h.os,h2.trans h.tape,h3.trans h.output,LO h.size h4,fun k hk=>by rw[h5 k (LA hk h.size)];exact h.old k hk,fun b hb=>h6 b (h.mono b hb),?_,h8,?_,⟨?_,h.heap.apart,?_⟩,h.may,?_,h.tsize,h.ro⟩
 ·intro b hb
  rcases h7 b hb with hb | hb
  ·exact h.new b hb
  ·exact .inr (LO h.size hb)
 ·intro t d hm
  obtain⟨q1,q2⟩:=h.env t d hm
  exact⟨q1,q2.stable (fun b hb _=>h6 b hb) (fun b hb hl=>h5 b hl) h4 (fun _ _=>rfl)⟩
 ·intro i A hA
  rcases A.three with rfl | hl | hl
  ·trivial
  ·exact(h.heap.box i A hA).stable (fun b hb _=>h6 b hb) (fun b hb hl=>h5 b hl) h4 (fun _ _=>rfl) (MX i A hA hl)
  ·exact(h.heap.box i A hA).stable (fun b hb _=>h6 b hb) (fun b hb hl=>h5 b hl) h4 (fun _ _=>rfl) (fun b hb=>h5 b ((h.heap.box i A hA).ltR hl b hb))
 ·intro i A b hA hl hb hS
  rcases h7 b hS with hS | hS
  ·exact h.heap.notS i A b hA hl hb hS
  ·have:=(h.heap.box i A hA).lt hl b hb
   omega
 ·obtain⟨mk,d1,d2,d3⟩:=h.defers
  refine⟨mk,d1,d2,fun b hb=>?_⟩
  obtain⟨q1,q2,q3,q4⟩:=d3 b hb
  have M6:b<w.heap.size:=(KQ.1 q1).1
  exact⟨by rw[h5 b M6];exact q1,q2,fun Nn=>(h7 b Nn).elim q3 (fun h=>by omega),q4⟩
theorem aK.callCore (h:aK C S μ st a w) {f:FuncId} {q':List D} {al:Bool} {r:D} {us:Array Value} (hc:ai C.P f q' [] al r []) {S1:Nat→Prop} (h1:∀b,S b→S1 b) (h2:∀b,S1 b→b<w.heap.size)
  (h3:al=true→∀b,S1 b→S b) (Nj:aE S1 μ w q' us) (hr:da r=true) {K:Value→World→Prop} (hK:∀S' u w',aK C S' μ st a w'→ah S' μ w' r u→K u w') :
  Calls C.P f us w (fun e w'=>∃u,e=.returned u∧K u w'):=by
 have slt:=h.slt
 refine(hc S1 μ w us h2 (h.glob.stable (fun b hb _=>h1 b hb) (fun _ _ _=>rfl) (KI _)) ⟨fun id B hB=>by simp at hB,fun i j A B b hA=>by simp at hA,fun i A b hA=>by simp at hA⟩ Nj).mono ?_
 rintro e w' ⟨u,μ',S',rfl,q1,q2,q3,q4,q5,q6,q7,q8,q9,_⟩
 refine⟨u,rfl,hK (fun b=>S b∨(S' b∧w.heap.size≤b)) u w' (h.grow q1 q2 q3 q4 (fun k hk=>q5 k hk (fun i A hA=>by simp at hA)) (fun b hb=>.inl hb) ?_ ?_) ?_⟩
 ·rintro b (hb | ⟨_,hb⟩)
  ·exact .inl hb
  ·exact .inr hb
 ·rintro b (hb | ⟨hb,_⟩)
  ·exact LA (slt b hb) q4
  ·exact q8 b hb
 ·refine q9.stable ?_ (fun _ _ _=>rfl) (KI _) (fun id M5=>by rw[eD id r hr]at M5;cases M5)
  rintro b ⟨hb,OC⟩ _
  rcases q7 b hb with QJ | QJ
  ·rcases OC with OC | OC
   ·exact .inl (h3 OC b QJ)
   ·exact .inr ⟨hb,OC⟩
  ·exact .inr ⟨hb,QJ⟩
def mr (P:Program) (g:FuncId) (H:List am) (ds:List D) (q':Option (List D)) (al:Bool) (r:D):Prop :=
 match q' with
 | none=>ai P g ds [] al r []
 | some q'=>tE H ds q'∧ai P g q' [] al r []
theorem aK.callPure (h:aK C S μ st a w) {f:FuncId} {ds:List D} {q':Option (List D)} {al:Bool} {r:D} {us:Array Value} (hc:mr C.P f st.heap ds q' al r) (Nj:aE S μ w ds us) (NA:al=false∨d7 ds=true)
  (hr:da r=true) {K:Value→World→Prop} (hK:∀S' u w',aK C S' μ st a w'→ah S' μ w' r u→K u w') :
  Calls C.P f us w (fun e w'=>∃u,e=.returned u∧K u w'):=by
 cases q' with
 | none=>exact h.callCore hc (fun _ h=>h) h.slt (fun _ _ h=>h) Nj hr hK
 | some q' =>
  obtain⟨hco,hc⟩:=hc
  have slt:=h.slt
  have hSc:∀b,(S b∨(al=false∧∃(i:Nat) (A:am),st.heap[i]?=some A∧A.mem=true∧bi (μ i) b))→b<w.heap.size:=by
   rintro b (hb | ⟨_,i,A,hA,hl,hb⟩)
   ·exact slt b hb
   ·exact(h.heap.box i A hA).ltM hl b hb
  refine h.callCore hc (S1:=fun b=>S b∨(al=false∧∃(i:Nat) (A:am),st.heap[i]?=some A∧A.mem=true∧bi (μ i) b)) (fun b hb=>.inl hb) hSc ?_ ?_ hr hK
  ·rintro NA b (hb | ⟨h0,_⟩)
   ·exact hb
   ·rw[NA]at h0;cases h0
  ·refine i3 h.heap (fun b hb=>.inl hb) slt ?_ hco Nj
   rcases NA with NA | NA
   ·exact .inl (fun i A b hA hl hb=>.inr ⟨NA,i,A,hA,hl,hb⟩)
   ·exact .inr NA
def HE (id:Nat):D→D→Prop
 | .own i,.own j=>i=id∧j=0
 | .own _,.junk=>True
 | .own _,_=>False
 | x,y=>da y=true∧EU x y
def I6 (id:Nat):List D→List D→Prop
 | [],[]=>True
 | x::xs,y::ys=>HE id x y∧I6 id xs ys
 | _,_=>False
def I7 (id:Nat):D→D→Prop
 | .agg xs,.agg ys=>I6 id xs ys
 | x,y=>HE id x y
def Ge (id:Nat):List D→List D→Prop
 | [],[]=>True
 | x::xs,y::ys=>I7 id x y∧Ge id xs ys
 | _,_=>False
theorem zw {S:Nat→Prop} {μ:Nat→Value} {w:World} {id:Nat} {x y:D} {u:Value} (h:HE id x y) (hx:ah S μ w x u):ah S (fun _=>μ id) w y u:=by
 unfold HE at h
 split at h
 ·obtain⟨rfl,rfl⟩:=h
  cases hx
  exact ah.own (μ:=fun _=>μ _) 0
 ·exact .junk _
 ·exact h.elim
 ·exact(qq h.2 hx).stable (fun _ h _=>h) (fun _ _ _=>rfl) (KI _) (fun i hi=>by rw[eD i _ h.1]at hi;cases hi)
theorem zx {id:Nat}:∀{xs ys:List D},I6 id xs ys→xs.length=ys.length∧∀(j:Nat) (y:D),ys[j]?=some y→∃x,xs[j]?=some x∧HE id x y
 | [],[],_=>⟨rfl,fun j y hy=>by simp at hy⟩
 | [],_::_,h=>h.elim
 | _::_,[],h=>h.elim
 | x::xs,y::ys,h=>by
  obtain⟨h1,h2⟩:=zx h.2
  refine⟨by simp[h1],fun j z hz=>?_⟩
  cases j with
  | zero=>simp at hz;subst hz;exact⟨x,rfl,h.1⟩
  | succ j=>simpa using h2 j z (by simpa using hz)
theorem zy {id:Nat}:∀{xs ys:List D},Ge id xs ys→xs.length=ys.length∧∀(j:Nat) (y:D),ys[j]?=some y→∃x,xs[j]?=some x∧I7 id x y
 | [],[],_=>⟨rfl,fun j y hy=>by simp at hy⟩
 | [],_::_,h=>h.elim
 | _::_,[],h=>h.elim
 | x::xs,y::ys,h=>by
  obtain⟨h1,h2⟩:=zy h.2
  refine⟨by simp[h1],fun j z hz=>?_⟩
  cases j with
  | zero=>simp at hz;subst hz;exact⟨x,rfl,h.1⟩
  | succ j=>simpa using h2 j z (by simpa using hz)
theorem zA {S:Nat→Prop} {μ:Nat→Value} {w:World} {id:Nat} {ds q':List D} {us:Array Value} (he:Ge id ds q') (h:aE S μ w ds us):aE S (fun _=>μ id) w q' us:=by
 obtain⟨h1,h2⟩:=zy he
 refine⟨by rw[← h1];exact h.1,fun j y u hy hu=>?_⟩
 obtain⟨x,hx,Px⟩:=h2 j y hy
 have OZ:=h.2 j x u hx hu
 unfold I7 at Px
 split at Px
 ·obtain⟨vs,rfl,q1,q2⟩:=dr OZ
  obtain⟨r1,r2⟩:=zx Px
  refine .agg _ _ (by rw[← r1];exact q1) (fun k z v hz hv=>?_)
  obtain⟨x',Pk,P7⟩:=r2 k z hz
  exact zw P7 (q2 k x' v Pk hv)
 ·exact zw Px OZ
def Cx:Option am→Option am
 | some (.arr E sz enc d l)=>some (.ro E sz enc d l)
 | some (.ro E sz enc d l)=>some (.ro E sz enc d l)
 | _=>none
theorem tF {S:Nat→Prop} {μ μ':Nat→Value} {w:World} {u:Value} {A B:am} (h:Cx (some A)=some B) (hA:az S μ w u A):B.isRo=true∧az S μ' w u B:=by
 unfold Cx at h
 split at h
 ·rename_i e;cases e;cases h;exact⟨rfl,hA⟩
 ·rename_i e;cases e;cases h;exact⟨rfl,hA⟩
 ·cases h
def i4 (P:Program) (g:FuncId) (H:List am) (ds:List D) (id:Nat) (q':List D) (r:D):Prop :=
 match Cx H[id]? with
 | some B=>Ge id ds q'∧ai P g q' [B] true r []
 | none=>False
theorem zB {S:Nat→Prop} {μ:Nat→Value} {w:World} {B:am} (hr:B.isRo=true) (h:az S μ w (μ 0) B):aV S μ w [B]:=by
 have hl:B.live=false:=by cases B<;>first | rfl | cases hr
 have one:∀(i:Nat) (A:am),[B][i]?=some A→i=0∧A=B:=fun i A hA=>by
  match i with
  | 0=>simp at hA;exact⟨rfl,hA.symm⟩
  | i+1=>simp at hA
 refine⟨fun i A hA=>?_,fun i j A A' b hA _ la=>?_,fun i A b hA la=>?_⟩
 ·obtain⟨rfl,rfl⟩:=one i A hA;exact h
 ·rw[(one i A hA).2,hl]at la;cases la
 ·rw[(one i A hA).2,hl]at la;cases la
theorem aK.callR (h:aK C S μ st a w) {f:FuncId} {ds:List D} {id:Nat} {q':List D} {r:D} {us:Array Value} (hc:i4 C.P f st.heap ds id q' r) (Nj:aE S μ w ds us)
  (hr:da r=true) {K:Value→World→Prop} (hK:∀S' u w',aK C S' μ st a w'→ah S' μ w' r u→K u w') :
  Calls C.P f us w (fun e w'=>∃u,e=.returned u∧K u w'):=by
 unfold i4 at hc
 split at hc
 ·rename_i B hB
  obtain⟨hra,hc⟩:=hc
  cases QT:st.heap[id]? with
  | none=>rw[QT]at hB;cases hB
  | some A =>
   rw[QT]at hB
   obtain⟨Oj,G'⟩:=tF (μ':=fun _=>μ id) hB (h.heap.box id A QT)
   have hl:B.live=false:=by cases B<;>first | rfl | cases Oj
   have slt:=h.slt
   refine(hc S (fun _=>μ id) w us slt h.glob (zB Oj G') (zA hra Nj)).mono ?_
   rintro e w' ⟨u,μ',S',rfl,q1,q2,q3,q4,q5,q6,q7,q8,q9,_⟩
   have nolive:∀(k i:Nat) (A:am),[B][i]?=some A→A.live=true→¬bi ((fun _=>μ id) i) k:=fun k i A hA la=>by
    match i with
    | 0=>simp at hA;rw[← hA,hl]at la;cases la
    | i+1=>simp at hA
   refine⟨u,rfl,hK S' u w' (h.grow q1 q2 q3 q4 (fun k hk=>q5 k hk (nolive k)) q6 q7 q8) ?_⟩
   exact q9.stable (fun b hb _=>hb.1) (fun _ _ _=>rfl) (KI _) (fun id M5=>by rw[eD id r hr]at M5;cases M5)
 ·exact hc.elim
end
inductive Fz:Type 1
 | sl (x:V)
 | vr (cs:List V)
 | gs (f:Nat→V)
 | nw (q:Nat)
 | sq (x:V)
def Fz.own:Fz→D
 | .sl x=>.v x
 | .vr _=>.junk
 | .gs _=>.junk
 | .nw _=>.junk
 | .sq x=>.v x
def Fz.gr:Fz→Nat→D
 | .gs f,r=>.v (f r)
 | _,_=>.junk
def Fz.ptr:Fz→Nat→Nat→D
 | .sl _,_,_=>.junk
 | .gs _,_,_=>.junk
 | .nw _,_,_=>.junk
 | .sq _,_,_=>.junk
 | .vr cs,k,L'=>if Nat.beq k 0 then .iptr cs L' else .junk
def Fz.pre (sz:Nat) (sh:Bool) {α:Type} (enc:α→List V) (d:α) (l:List α):Fz→D
 | .nw q=>.pre q sz sh enc d l
 | .sq _=>.v (.sl sz enc d l)
 | _=>.junk
def Fz.keep:Fz→Bool
 | .nw _=>true
 | .sq _=>true
 | _=>false
mutual
def cj (id:Nat) (x:Fz):D→D
 | .own i=>if Nat.beq i id then x.own else .own i
 | .agg cs=>.agg (it id x cs)
 | .tup cs=>.tup (it id x cs)
 | .ptr i k sz L'=>if Nat.beq i id then x.ptr k L' else .ptr i k sz L'
 | .fn f a b=>.fn f (it id x a) (it id x b)
 | .v y=>.v y
 | .nils=>.nils
 | .iptr cs L'=>.iptr cs L'
 | .yld i=>.yld i
 | .capd y=>.capd y
 | .gr i r=>if Nat.beq i id then x.gr r else .gr i r
 | .pre i sz sh enc d l=>if Nat.beq i id then x.pre sz sh enc d l else .pre i sz sh enc d l
 | .junk=>.junk
def it (id:Nat) (x:Fz):List D→List D
 | []=>[]
 | d::r=>cj id x d::it id x r
end
def f9 (id:Nat) (x:Fz):List (Nat×D)→List (Nat×D)
 | []=>[]
 | (t,d)::r=>(t,cj id x d)::f9 id x r
def dU (id:Nat) (x:Fz):am→am
 | .var T cs=>.var T (it id x cs)
 | .loop l tm nt env ps q' bd s p=>.loop l tm nt (f9 id x env) ps q' bd s p
 | .frame tm env=>.frame tm (f9 id x env)
 | .ro E sz enc d l=>.ro E sz enc d l
 | .dead=>.dead
 | .arr E sz enc d l=>.arr E sz enc d l
 | .mpb t ag enc d l=>.mpb t ag enc d l
 | .arrD E sz n gs cell=>if gs.all (fun g=>!(Nat.beq g id))then .arrD E sz n gs cell else .arrD E sz n gs (fun i j=>cj id x (cell i j))
 | .grp n f=>.grp n f
 | .nest E sz n ce m f=>.nest E sz n ce m f
def bz (id:Nat) (x:Fz):List am→List am
 | []=>[]
 | B::r=>dU id x B::bz id x r
structure mZ:Type 1 where
 sz:Nat
 sh:Bool
 α:Type
 enc:α→List V
 d:α
 l:List α
mutual
def tG (id:Nat):D→List mZ
 | .pre i sz sh enc d l=>if Nat.beq i id then [⟨sz,sh,_,enc,d,l⟩]else []
 | .agg cs=>ri id cs
 | .tup cs=>ri id cs
 | .fn _ a b=>ri id a++ri id b
 | _=>[]
def ri (id:Nat):List D→List mZ
 | []=>[]
 | c::cs=>tG id c++ri id cs
end
def m4 (id:Nat):List (Nat×D)→List mZ
 | []=>[]
 | (_,d)::r=>tG id d++m4 id r
def ww (id:Nat):am→List mZ
 | .var _ cs=>ri id cs
 | .loop _ _ _ env _ _ _ _ _=>m4 id env
 | .frame _ env=>m4 id env
 | _=>[]
def jV (id:Nat):List am→List mZ
 | []=>[]
 | B::r=>ww id B++jV id r
def a9 (id:Nat):List am→Bool
 | []=>true
 | .arrD _ _ _ gs _::r=>gs.all (fun g=>!(Nat.beq g id))&&a9 id r
 | _::r=>a9 id r
def yd (sz:Nat) (cells:List (List V)):List mZ→Prop
 | []=>True
 | p::r=>(p.sh=true→p.sz=sz∧∃t,cells=p.l.map p.enc++t)∧yd sz cells r
theorem rj {sz:Nat} {cells:List (List V)}:∀{ps:List mZ} {p:mZ},yd sz cells ps→p∈ps→p.sh=true→p.sz=sz∧∃t,cells=p.l.map p.enc++t
 | q::r,p,h,hm=>by
  rcases Lv.1 hm with hm | hm
  ·subst hm;exact h.1
  ·exact rj h.2 hm
theorem eF {id:Nat} {p:mZ}:∀{cs:List D} {j:Nat} {y:D},cs[j]?=some y→p∈tG id y→p∈ri id cs
 | [],_,_,h,_=>by simp at h
 | c::cs,0,y,h,hp=>by simp at h;subst h;exact LC _ hp
 | c::cs,j+1,y,h,hp=>Lx _ (eF (by simpa using h) hp)
theorem eG {id:Nat} {p:mZ}:∀{env:List (Nat×D)} {t:Nat} {d:D},(t,d)∈env→p∈tG id d→p∈m4 id env
 | (s,e)::r,t,d,h,hp=>by
  rcases Lv.1 h with h | h
  ·cases h;exact LC _ hp
  ·exact Lx _ (eG h hp)
theorem iu {id:Nat} {p:mZ}:∀{H:List am} {j:Nat} {B:am},H[j]?=some B→p∈ww id B→p∈jV id H
 | [],_,_,h,_=>by simp at h
 | c::cs,0,y,h,hp=>by simp at h;subst h;exact LC _ hp
 | c::cs,j+1,y,h,hp=>Lx _ (iu (by simpa using h) hp)
theorem ms {id:Nat}:∀{H:List am} {j:Nat} {E sz n:Nat} {gs:List Nat} {cell:Nat→Nat→D},a9 id H=true→H[j]?=some (.arrD E sz n gs cell)→gs.all (fun g=>!(Nat.beq g id))=true
 | [],_,_,_,_,_,_,_,h=>by simp at h
 | B::r,0,E,sz,n,gs,cell,hn,h=>by
  simp at h
  subst h
  simp only[a9,KD]at hn
  exact hn.1
 | B::r,j+1,E,sz,n,gs,cell,hn,h=>by
  have hr:a9 id r=true:=by cases B<;>first | exact hn | (simp only[a9,KD]at hn;exact hn.2)
  exact ms hr (by simpa using h)
def mt:List D→Option (List V)
 | []=>some []
 | .v x::r=>match mt r with
  | some vs=>some (x::vs)
  | none=>none
 | _::_=>none
theorem zC:∀{cs:List D} {vs:List V},mt cs=some vs→cs=vs.map D.v
 | [],vs,h=>by simp[mt]at h;subst h;rfl
 | .v x::r,vs,h=>by
  unfold mt at h
  split at h
  ·rename_i vs' h'
   cases h
   rw[zC h'];rfl
  ·cases h
 | .nils::_,_,h=>by simp[mt]at h
 | .own _::_,_,h=>by simp[mt]at h
 | .ptr _ _ _ _::_,_,h=>by simp[mt]at h
 | .iptr _ _::_,_,h=>by simp[mt]at h
 | .agg _::_,_,h=>by simp[mt]at h
 | .tup _::_,_,h=>by simp[mt]at h
 | .fn _ _ _::_,_,h=>by simp[mt]at h
 | .yld _::_,_,h=>by simp[mt]at h
 | .capd _::_,_,h=>by simp[mt]at h
 | .junk::_,_,h=>by simp[mt]at h
def kM (id:Nat) (st:St):Option St :=
 match st.heap[id]? with
 | some (.arr _ sz enc d l)=>some ⟨f9 id (.sl (.sl sz enc d l)) st.env,(bz id (.sl (.sl sz enc d l)) st.heap).set id .dead⟩
 | some (.var _ cs)=>match mt cs with
  | some vs=>some ⟨f9 id (.vr vs) st.env,(bz id (.vr vs) st.heap).set id .dead⟩
  | none=>none
 | some (.mpb _ ag enc d l)=>some ⟨f9 id (.sl (.sm ag enc d l)) st.env,(bz id (.sl (.sm ag enc d l)) st.heap).set id .dead⟩
 | some (.grp _ f)=>some ⟨f9 id (.gs fun r=>.sl (f r).sz (f r).enc (f r).d (f r).l) st.env,(bz id (.gs fun r=>.sl (f r).sz (f r).enc (f r).d (f r).l) st.heap).set id .dead⟩
 | _=>none
section
variable {P:Program} {S S':Nat→Prop} {μ:Nat→Value} {w:World} {id:Nat} {x:Fz}
def Cy (S':Nat→Prop) (μ:Nat→Value) (w:World) (id:Nat):Fz→Prop
 | .sl x=>ci S' w x (μ id)
 | .gs f=>∀(us:Array Value),μ id=.tuple us→∀(r:Nat) (u:Value),us[r]?=some u→ci S' w (f r) u
 | .vr cs=>∀(b L':Nat),aA (μ id)=some b→ah S' μ w (.iptr cs L') (.pointer (some ⟨b,L',none⟩))
 | .nw _=>True
 | .sq x=>ci S' w x (μ id)
def s9 (S':Nat→Prop) (μ:Nat→Value) (w:World) (id:Nat) (x:Fz) (p:mZ):Prop:=match x with
 | .nw q=>p.sh=true→∀(g n c:Nat),aA (μ id)=some g→n=p.l.length→n≤c→c≤maxLen→aA (μ q)=some g∨ci S' w (.sl p.sz p.enc p.d p.l) (.slice (some ⟨g,0,none⟩) n c)
 | .sq _=>p.sh=true→∀(g n c:Nat),aA (μ id)=some g→n=p.l.length→n≤c→c≤maxLen→ci S' w (.sl p.sz p.enc p.d p.l) (.slice (some ⟨g,0,none⟩) n c)
 | _=>True
theorem s9.triv {x:Fz} (h:x.keep=false) (p:mZ):s9 S' μ w id x p:=by cases x<;>first | trivial | cases h
theorem ga:∀(cs:List D) (j:Nat),(it id x cs)[j]?=(cs[j]?).map (cj id x)
 | [],j=>by simp[it]
 | d::r,0=>by simp[it]
 | d::r,j+1=>by simp[it,ga r j]
theorem df:∀(cs:List D),(it id x cs).length=cs.length
 | []=>rfl
 | d::r=>by simp[it,df r]
theorem fh:∀(H:List am) (j:Nat),(bz id x H)[j]?=(H[j]?).map (dU id x)
 | [],j=>by simp[bz]
 | d::r,0=>by simp[bz]
 | d::r,j+1=>by simp[bz,fh r j]
theorem gb:∀{env:List (Nat×D)} {t:Nat} {d:D},(t,d)∈f9 id x env→∃e,(t,e)∈env∧d=cj id x e
 | (s,e)::r,t,d,h=>by
  rcases Lv.1 h with h | h
  ·cases h;exact⟨e,Lg ..,rfl⟩
  ·obtain⟨e',h1,h2⟩:=gb h
   exact⟨e',Lc _ h1,h2⟩
theorem fN (hx:Cy S' μ w id x) (hS:∀b,S b→S' b) {d:D} {u:Value} (h:ah S μ w d u) (hp:∀p,p∈tG id d→s9 S' μ w id x p):ah S' μ w (cj id x d) u:=by
 induction h with
 | v y u h=>exact .v y u (h.stable (fun b hb _=>hS b hb) (fun _ _ _=>rfl) (KI _))
 | nils=>exact .nils
 | own i =>
  unfold cj
  split
  ·rename_i hi
   rw[KU]at hi
   subst hi
   cases x with
   | sl x=>exact .v _ _ hx
   | vr cs=>exact .junk _
   | gs f=>exact .junk _
   | nw q=>exact .junk _
   | sq x=>exact .v _ _ hx
  ·exact .own i
 | ptr i k sz L' b h =>
  unfold cj
  split
  ·rename_i hi
   rw[KU]at hi
   subst hi
   cases x with
   | sl x=>exact .junk _
   | gs f=>exact .junk _
   | nw q=>exact .junk _
   | sq x=>exact .junk _
   | vr cs =>
    unfold Fz.ptr
    simp only
    split
    ·rename_i hk
     rw[KU]at hk
     subst hk
     rw[Nat.zero_mul,Li]
     exact hx b L' h
    ·exact .junk _
  ·exact .ptr i k sz L' b h
 | iptr cs L' b o us h1 h2 h3 h4=>exact .iptr cs L' b o us (hS b h1) h2 h3 (fun j y hy=>(h4 j y hy).stable (fun b hb _=>hS b hb) (fun _ _ _=>rfl) (KI _))
 | agg cs us h1 _ ih =>
  refine .agg _ us (by rw[df];exact h1) (fun j y u hy hu=>?_)
  rw[ga]at hy
  cases hc:cs[j]? with
  | none=>rw[hc]at hy;cases hy
  | some e=>rw[hc]at hy;simp at hy;subst hy;exact ih j e u hc hu (fun p h=>hp p (eF hc h))
 | tup cs us h1 _ ih =>
  refine .tup _ us (by rw[df];exact h1) (fun j y u hy hu=>?_)
  rw[ga]at hy
  cases hc:cs[j]? with
  | none=>rw[hc]at hy;cases hy
  | some e=>rw[hc]at hy;simp at hy;subst hy;exact ih j e u hc hu (fun p h=>hp p (eF hc h))
 | fn f a b us vs h1 _ h2 _ ih1 ih2 =>
  refine .fn f _ _ us vs (by rw[df];exact h1) (fun j y u hy hu=>?_) (by rw[df];exact h2) (fun j y u hy hu=>?_)
  ·rw[ga]at hy
   cases hc:a[j]? with
   | none=>rw[hc]at hy;cases hy
   | some e=>rw[hc]at hy;simp at hy;subst hy;exact ih1 j e u hc hu (fun p h=>hp p (LC _ (eF hc h)))
  ·rw[ga]at hy
   cases hc:b[j]? with
   | none=>rw[hc]at hy;cases hy
   | some e=>rw[hc]at hy;simp at hy;subst hy;exact ih2 j e u hc hu (fun p h=>hp p (Lx _ (eF hc h)))
 | junk u=>exact .junk u
 | yld i l h=>exact .yld i l h
 | capd y p n h=>exact .capd y p n (h.stable (fun b hb _=>hS b hb) (fun _ _ _=>rfl) (KI _))
 | gr g r us u h h1 h2 =>
  unfold cj
  split
  ·rename_i hi
   rw[KU]at hi
   subst hi
   cases x with
   | gs f=>exact .v _ _ (hx us h r u h1)
   | _=>exact .junk _
  ·exact .gr g r us u h h1 h2
 | preA i sz sh enc d l g n c h0 h1 h2 h3 h4 =>
  unfold cj
  split
  ·rename_i hi
   have hp:=hp ⟨sz,sh,_,enc,d,l⟩ (by simp only[tG,hi,L9];exact Mc.2 rfl)
   rw[KU]at hi
   subst hi
   cases x with
   | nw q =>
    rcases hp h0 g n c h1 h2 h3 h4 with h | h
    ·exact .preA q sz sh enc d l g n c h0 h h2 h3 h4
    ·exact .preB q sz sh enc d l _ h
   | sq x=>exact .v _ _ (hp h0 g n c h1 h2 h3 h4)
   | _=>exact .junk _
  ·exact .preA i sz sh enc d l g n c h0 h1 h2 h3 h4
 | preB i sz sh enc d l u h =>
  unfold cj
  split
  ·cases x with
   | nw q=>exact .preB q sz sh enc d l u (h.stable (fun b hb _=>hS b hb) (fun _ _ _=>rfl) (KI _))
   | sq x=>exact .v _ _ (h.stable (fun b hb _=>hS b hb) (fun _ _ _=>rfl) (KI _))
   | _=>exact .junk _
  ·exact .preB i sz sh enc d l u (h.stable (fun b hb _=>hS b hb) (fun _ _ _=>rfl) (KI _))
end
mutual
theorem zD {id k:Nat} {x:Fz} (hk:∀q,x=.nw q→q≠k):∀d:D,D.free k d=true→D.free k (cj id x d)=true
 | .own i,h=>by
  unfold cj
  split
  ·cases x<;>rfl
  ·exact h
 | .ptr i k' sz L',h=>by
  unfold cj
  split
  ·cases x<;>first | rfl | (simp only[Fz.ptr];split<;>rfl)
  ·exact h
 | .gr i r,h=>by
  unfold cj
  split
  ·cases x<;>rfl
  ·exact h
 | .agg cs,h=>by simp only[cj,D.free];exact m5 hk cs (by simpa only [D.free]using h)
 | .tup cs,h=>by simp only[cj,D.free];exact m5 hk cs (by simpa only [D.free]using h)
 | .fn f a b,h=>by
  simp only[D.free,KD]at h
  simp only[cj,D.free,KD]
  exact⟨m5 hk a h.1,m5 hk b h.2⟩
 | .pre i sz sh enc d l,h=>by
  unfold cj
  split
  ·cases x<;>first | rfl | (rename_i q;simp only[Fz.pre,D.free,K5];cases hb:Nat.beq q k with | false=>rfl | true=>exact absurd (Nat.eq_of_beq_eq_true hb) (hk q rfl))
  ·exact h
 | .yld i,h=>h
 | .v _,_=>rfl
 | .nils,_=>rfl
 | .iptr _ _,_=>rfl
 | .capd _,_=>rfl
 | .junk,_=>rfl
theorem m5 {id k:Nat} {x:Fz} (hk:∀q,x=.nw q→q≠k):∀cs:List D,D.freeL k cs=true→D.freeL k (it id x cs)=true
 | [],_=>rfl
 | c::cs,h=>by
  simp only[D.freeL,KD]at h
  simp only[it,D.freeL,KD]
  exact⟨zD hk c h.1,m5 hk cs h.2⟩
end
theorem oJ {id:Nat} {x:Fz} (B:am):(dU id x B).live=B.live:=by cases B<;>first | rfl | (simp only[dU];split<;>rfl)
theorem zE {id:Nat} {x:Fz} (B:am):(dU id x B).isRo=B.isRo:=by cases B<;>first | rfl | (simp only[dU];split<;>rfl)
theorem tH {id:Nat} {x:Fz} {B:am} (h:B.isRo=true):dU id x B=B:=by cases B<;>first | rfl | cases h
section
variable {C:jC} {st:St}
theorem aK.freezeX {S:Nat→Prop} {μ:Nat→Value} {a:Act} {w:World} (hR:aK C S μ st a w) {id:Nat} {Z:am} {z:Fz} (G':st.heap[id]?=some Z) (hZ:Z.live=true) (hx:Cy (fun b=>S b∨bi (μ id) b) μ w id z)
  (hn:z.keep=true→a9 id st.heap=true) (hp:∀p,p∈m4 id st.env∨p∈jV id st.heap→s9 (fun b=>S b∨bi (μ id) b) μ w id z p) :
  aK C (fun b=>S b∨bi (μ id) b) μ ⟨f9 id z st.env,(bz id z st.heap).set id .dead⟩ a w:=by
  have hB:=hR.heap.box id _ G'
  have Nb:∀b,bi (μ id) b→C.W.heap.size≤b:=fun b hb=>hR.may id _ b G' hZ hb
  have M6:∀b,bi (μ id) b→b<w.heap.size:=hB.lt hZ
  let S':Nat→Prop:=fun b=>S b∨bi (μ id) b
  have M5:id<st.heap.length:=(KE.1 G').1
  have Nh:∀(i:Nat) (A:am),((bz id z st.heap).set id .dead)[i]?=some A→A.live=true→i≠id∧∃B,st.heap[i]?=some B∧A=dU id z B∧B.live=true:=by
   intro i A hA hl
   by_cases hi:i=id
   ·subst hi
    rw[KY (by
     have:(bz i z st.heap)[i]?=(st.heap[i]?).map _:=fh st.heap i
     rw[G']at this
     exact(KE.1 this).1)]at hA
    cases hA
    cases hl
   ·rw[KW (fun e=>hi e.symm),fh]at hA
    cases hc:st.heap[i]? with
    | none=>rw[hc]at hA;cases hA
    | some B =>
     rw[hc]at hA
     simp at hA
     refine⟨hi,B,rfl,hA.symm,?_⟩
     subst hA
     rwa [oJ]at hl
  have SA:∀(i:Nat) (A:am),((bz id z st.heap).set id .dead)[i]?=some A→A.isRo=true→i≠id∧st.heap[i]?=some A:=by
   intro i A hA hl
   by_cases hi:i=id
   ·subst hi
    rw[KY (by
     have:(bz i z st.heap)[i]?=(st.heap[i]?).map _:=fh st.heap i
     rw[G']at this
     exact(KE.1 this).1)]at hA
    cases hA
    cases hl
   ·rw[KW (fun e=>hi e.symm),fh]at hA
    cases hc:st.heap[i]? with
    | none=>rw[hc]at hA;cases hA
    | some B =>
     rw[hc]at hA
     simp at hA
     refine⟨hi,?_⟩
     subst hA
     rw[zE]at hl
     rw[tH hl]
  show aK C S' μ _ a w
  refine⟨hR.os,hR.tape,hR.output,hR.size,hR.old,fun b hb=>.inl (hR.mono b hb),?_,?_,?_,⟨?_,?_,?_⟩,?_,?_,hR.tsize,?_⟩
  ·rintro b (hb | hb)
   ·exact hR.new b hb
   ·exact .inr (Nb b hb)
  ·rintro b (hb | hb)
   ·exact hR.slt b hb
   ·exact M6 b hb
  ·intro t e hm
   obtain⟨e',h1,rfl⟩:=gb hm
   obtain⟨q1,q2⟩:=hR.env t e' h1
   exact⟨q1,fN hx (fun b hb=>.inl hb) q2 (fun p h=>hp p (.inl (eG h1 h)))⟩
  ·intro i A hA
   rcases A.three with rfl | hl | hl
   ·trivial
   rotate_left
   ·obtain⟨hi,Nr⟩:=SA i A hA hl
    exact(hR.heap.box i A Nr).stable (fun b hb _=>.inl hb) (fun _ _ _=>rfl) (KI _) (fun _ _=>rfl) (fun _ _=>rfl) 
   ·obtain⟨hi,B,Nf,rfl,QS⟩:=Nh i A hA hl
    have hb:=hR.heap.box i B Nf
    cases B with
    | dead=>cases QS
    | ro=>cases QS
    | arr E2 Qv Oa d2 l2 =>
     exact hb.stable (fun b hb _=>.inl hb) (fun _ _ _=>rfl) (KI _) (fun _ _=>rfl) (fun _ _=>rfl)
    | mpb t2 ag2 Oa d2 l2 =>
     exact hb.stable (fun b hb _=>.inl hb) (fun _ _ _=>rfl) (KI _) (fun _ _=>rfl) (fun _ _=>rfl)
    | nest E2 Qv n ce m f=>exact hb.stable (fun b hb _=>.inl hb) (fun _ _ _=>rfl) (KI _) (fun _ _=>rfl) (fun _ _=>rfl)
    | grp n f=>exact hb.stable (fun b hb _=>.inl hb) (fun _ _ _=>rfl) (KI _) (fun _ _=>rfl) (fun _ _=>rfl)
    | arrD E2 Qv n gs cell =>
     simp only[dU]
     split
     ·exact hb.stable (fun b hb _=>.inl hb) (fun _ _ _=>rfl) (KI _) (fun _ _=>rfl) (fun _ _=>rfl)
     ·rename_i hgs
      have hkf:z.keep=false:=by
       cases hk:z.keep with
       | false=>rfl
       | true=>exact absurd (ms (hn hk) Nf) hgs
      obtain⟨h0,xs,h1,h3⟩:=hb
      refine⟨fun i j k hi hj hk=>zD (fun q e=>by subst e;cases hkf) _ (h0 i j k hi hj hk),xs,h1,fun i j hi hj=>?_⟩
      obtain⟨v,hv,ho,hr⟩:=h3 i j hi hj
      exact⟨v,hv,ho,fN hx (fun b hb=>.inl hb) hr (fun p _=>s9.triv hkf p)⟩
    | var T cs =>
     obtain⟨b,vs,e,q1,q2,q3⟩:=hb
     refine⟨b,vs,e,q1,by rw[df];exact q2,fun j y z hy hz=>?_⟩
     rw[ga]at hy
     cases hc:cs[j]? with
     | none=>rw[hc]at hy;cases hy
     | some y'=>rw[hc]at hy;simp at hy;subst hy;exact fN hx (fun b hb=>.inl hb) (q3 j y' z hc hz) (fun p h=>hp p (.inr (iu Nf (eF hc h))))
    | loop l tm nt env ps q' bd s pe =>
     obtain⟨r,h0,h1,h2,h3,h4,h5,h6,h7,h8,h9⟩:=hb
     refine⟨r,h0,h1,h2,h3,h4,h5,h6,h7,h8,fun t e hm=>?_⟩
     obtain⟨e',k1,rfl⟩:=gb hm
     exact⟨(h9 t e' k1).1,fN hx (fun b hb=>.inl hb) (h9 t e' k1).2 (fun p h=>hp p (.inr (iu Nf (eG k1 h))))⟩
    | frame tm env =>
     obtain⟨h1,h9⟩:=hb
     refine⟨h1,fun t e hm=>?_⟩
     obtain⟨e',k1,rfl⟩:=gb hm
     exact⟨(h9 t e' k1).1,fN hx (fun b hb=>.inl hb) (h9 t e' k1).2 (fun p h=>hp p (.inr (iu Nf (eG k1 h))))⟩
  ·intro i j A A' b hA Nr hl hl'
   obtain⟨_,B,SB,_,QS⟩:=Nh i A hA hl
   obtain⟨_,B',hB2,_,hBl'⟩:=Nh j A' Nr hl'
   exact hR.heap.apart i j B B' b SB hB2 QS hBl'
  ·intro i A b hA hl hb hs
   obtain⟨hi,B,SB,_,QS⟩:=Nh i A hA hl
   rcases hs with hs | hs
   ·exact hR.heap.notS i B b SB QS hb hs
   ·exact hi (hR.heap.apart i id B _ b SB G' QS hZ hb hs)
  ·intro i A b hA hl hb
   obtain⟨hi,B,SB,_,QS⟩:=Nh i A hA hl
   exact hR.may i B b SB QS hb
  ·obtain⟨mk,d1,d2,d3⟩:=hR.defers
   refine⟨mk,d1,d2,fun b hb=>?_⟩
   obtain⟨q1,q2,q3,q4⟩:=d3 b hb
   refine⟨q1,q2,fun hs=>?_,fun i A hA hl=>?_⟩
   ·rcases hs with hs | hs
    ·exact q3 hs
    ·exact q4 id _ G' hZ hs
   ·obtain⟨hi,B,SB,_,QS⟩:=Nh i A hA hl
    exact q4 i B SB QS
  ·intro i A b hA hl
   obtain⟨hi,Nr⟩:=SA i A hA hl
   exact hR.ro i A b Nr hl
theorem aK.freezeZ {S:Nat→Prop} {μ:Nat→Value} {a:Act} {w:World} (hR:aK C S μ st a w) {id:Nat} {Z:am} {z:Fz} (G':st.heap[id]?=some Z) (hZ:Z.live=true) (hx:Cy (fun b=>S b∨bi (μ id) b) μ w id z) (hk:z.keep=false:=by rfl) :
  ∃S',aK C S' μ ⟨f9 id z st.env,(bz id z st.heap).set id .dead⟩ a w:=⟨_,hR.freezeX G' hZ hx (fun e=>by rw[hk]at e;cases e) (fun p _=>s9.triv hk p)⟩
theorem aK.freeze {S:Nat→Prop} {μ:Nat→Value} {a:Act} {w:World} (hR:aK C S μ st a w) {id:Nat} {I':St} (h:kM id st=some I'):∃S',aK C S' μ I' a w:=by
 unfold kM at h
 split at h
 ·rename_i E sz α enc d l G'
  simp only[KP]at h
  subst h
  exact hR.freezeZ G' rfl (db (hR.heap.box id _ G') (fun b hb=>.inl hb) (fun b hb=>.inr hb) hR.slt)
 ·rename_i T cs G'
  split at h
  ·rename_i vs Od
   simp only[KP]at h
   subst h
   have hc:=zC Od
   subst hc
   refine hR.freezeZ G' rfl (fun b L' hb=>?_)
   have hB:=hR.heap.box id _ G'
   have M6:b<w.heap.size:=hB.lt rfl b (.inl hb)
   have NL:=hB.var_cells hb
   have hv:∀(j:Nat) (y:V),vs[j]?=some y→w.cell? ⟨b,0+j,none⟩=some ((w.cell? ⟨b,0+j,none⟩).getD undef)∧ci S w y ((w.cell? ⟨b,0+j,none⟩).getD undef):=by
    intro j y hy
    obtain⟨u,h1,h2⟩:=NL j (.v y) (by rw[KX,hy];rfl)
    rw[h1]
    exact⟨rfl,ba h2⟩
   have:=ah.iptr (S:=fun b=>S b∨bi (μ id) b) (μ:=μ) (w:=w) vs L' b 0 (fun j=>(w.cell? ⟨b,0+j,none⟩).getD undef) (.inr (.inl hb)) M6 (fun j y hy=>(hv j y hy).1) (fun j y hy=>(hv j y hy).2.stable (fun b hb _=>.inl hb) (fun _ _ _=>rfl) (KI _))
   rwa [Li]at this
  ·cases h
 ·rename_i t ag α enc d l G'
  simp only[KP]at h
  subst h
  exact hR.freezeZ G' rfl (EV (hR.heap.box id _ G') (fun b hb=>.inl hb) (fun b hb=>.inr hb))
 ·rename_i n f G'
  simp only[KP]at h
  subst h
  refine hR.freezeZ G' rfl (fun us Nj r u hu=>?_)
  obtain⟨N8,e,_,h2,_⟩:=hR.heap.box id _ G'
  rw[Nj]at e
  cases e
  exact db (μ:=μ) (E:=(f r).E) (h2 r u hu).2 (fun b hb=>.inl hb) (fun b hb=>.inr (by
   rcases hb with hb | ⟨vs,e,k,x,hk,hx⟩
   ·exact .inr ⟨us,Nj,r,u,hu,hb⟩
   ·subst e;have:=(h2 r _ hu).1;cases this)) hR.slt
 ·cases h
mutual
theorem oL {id:Nat} {x:Fz}:∀d:D,D.free id d=true→cj id x d=d
 | .own i,h=>by
  simp only[D.free,K5]at h
  simp only[cj,h,Lm,L6]
 | .ptr i k sz L',h=>by
  simp only[D.free,K5]at h
  simp only[cj,h,Lm,L6]
 | .agg cs,h=>by simp only[D.free]at h;simp only[cj,fR cs h]
 | .tup cs,h=>by simp only[D.free]at h;simp only[cj,fR cs h]
 | .fn f a b,h=>by simp only[D.free,KD]at h;simp only[cj,fR a h.1,fR b h.2]
 | .v _,_=>rfl
 | .nils,_=>rfl
 | .iptr _ _,_=>rfl
 | .yld _,_=>rfl
 | .capd _,_=>rfl
 | .gr i r,h=>by
  simp only[D.free,K5]at h
  simp only[cj,h,Lm,L6]
 | .pre i sz sh enc d l,h=>by
  simp only[D.free,K5]at h
  simp only[cj,h,Lm,L6]
 | .junk,_=>rfl
theorem fR {id:Nat} {x:Fz}:∀cs:List D,D.freeL id cs=true→it id x cs=cs
 | [],_=>rfl
 | c::cs,h=>by
  simp only[D.freeL,KD]at h
  simp only[it,oL c h.1,fR cs h.2]
end
theorem kN {id:Nat} {x:Fz}:∀{env:List (Nat×D)},bj id env=true→f9 id x env=env
 | [],_=>rfl
 | (t,d)::r,h=>by
  simp only[bj,KD]at h
  simp only[f9,oL d h.1,kN h.2]
theorem tI {id:Nat} {x:Fz} (B:am) (h:am.free id B=true):dU id x B=B:=by
 cases B with
 | var T cs=>simp only[am.free]at h;simp only[dU,fR cs h]
 | loop l tm nt env ps a b s p=>simp only[am.free]at h;simp only[dU,kN h]
 | frame tm env=>simp only[am.free]at h;simp only[dU,kN h]
 | arrD E sz n gs cell=>simp only[am.free]at h;simp only[dU,h,L9]
 | _=>rfl
theorem tJ {id:Nat} {x:Fz}:∀{H:List am},aP id H=true→bz id x H=H
 | [],_=>rfl
 | B::r,h=>by
  simp only[aP,KD]at h
  simp only[bz,tI B h.1,tJ h.2]
theorem jW {id:Nat} {x:Fz}:∀(A B:List am),bz id x (A++B)=bz id x A++bz id x B
 | [],B=>rfl
 | a::A,B=>by simp only[My,bz,jW A B]
theorem jX {id:Nat} {x:Fz}:∀(H:List am),(bz id x H).length=H.length
 | []=>rfl
 | B::r=>by simp[bz,jX r]
end
section
variable {C:jC} {S:Nat→Prop} {μ μ':Nat→Value} {st:St} {a:Act} {w:World}
theorem aK.retell (h:aK C S μ st a w) {OL:List (Nat×D)} {H':List am} (Rm:∀t d,(t,d)∈OL→∃e,(t,e)∈st.env∧∀u,ah S μ w e u→ah S μ' w d u)
  (G':∀(i:Nat) (B:am),H'[i]?=some B→az S μ' w (μ' i) B)
  (MT:∀(i:Nat) (B:am) (b:Nat),H'[i]?=some B→B.live=true→bi (μ' i) b→∃(j:Nat) (A:am),st.heap[j]?=some A∧A.live=true∧bi (μ j) b)
  (hap:∀(i j:Nat) (A B:am) (b:Nat),H'[i]?=some A→H'[j]?=some B→A.live=true→B.live=true→bi (μ' i) b→bi (μ' j) b→i=j)
  (Oj:∀(i:Nat) (B:am),H'[i]?=some B→B.isRo=true→st.heap[i]?=some B∧μ' i=μ i):aK C S μ' ⟨OL,H'⟩ a w:=by
 refine⟨h.os,h.tape,h.output,h.size,h.old,h.mono,h.new,h.slt,fun t d hm=>?_,⟨G',hap,fun i A b hA la hb=>?_⟩,fun i A b hA la hb=>?_,?_,h.tsize,fun i A b hA la hb=>?_⟩
 ·obtain⟨e,h1,h2⟩:=Rm t d hm
  obtain⟨q1,q2⟩:=h.env t e h1
  exact⟨q1,h2 _ q2⟩
 ·obtain⟨j,B,h1,h2,h3⟩:=MT i A b hA la hb
  exact h.heap.notS j B b h1 h2 h3
 ·obtain⟨j,B,h1,h2,h3⟩:=MT i A b hA la hb
  exact h.may j B b h1 h2 h3
 ·obtain⟨mk,d1,d2,d3⟩:=h.defers
  refine⟨mk,d1,d2,fun b hb=>?_⟩
  obtain⟨q1,q2,q3,q4⟩:=d3 b hb
  refine⟨q1,q2,q3,fun i A hA hl QU=>?_⟩
  obtain⟨j,B,h1,h2,h3⟩:=MT i A b hA hl QU
  exact q4 j B h1 h2 h3
 ·obtain⟨h1,h2⟩:=Oj i A hA la
  rw[h2]at hb
  exact h.ro i A b h1 la hb
theorem aK.ghost {S:Nat→Prop} {μ:Nat→Value} {st:St} {a:Act} {w:World} (h:aK C S μ st a w) {q:Nat} (u:Value) (hq:∀A,st.heap[q]?=some A→A=.dead) (he:bj q st.env=true) (hf:aP q st.heap=true):aK C S (aM μ q u) st a w:=by
 have hs:∀(d:D) (v:Value),D.free q d=true→ah S μ w d v→ah S (aM μ q u) w d v:=fun d v hd hr=>hr.stable (fun _ h _=>h) (fun _ _ _=>rfl) (KI _) (fun k hk=>av _ _ (fun e=>by rw[e,hd]at hk;cases hk))
 have NF:∀(i:Nat) (B:am),st.heap[i]?=some B→B≠.dead→i≠q:=fun i B hB hd e=>by subst e;exact hd (hq B hB)
 have hl:∀{B:am},B.live=true→B≠.dead:=fun h e=>by subst e;cases h
 refine h.retell (fun t d hm=>⟨d,hm,fun v hv=>hs d v (cE he hm) hv⟩) (fun i B hB=>?_) (fun i B b hB hl' hb=>⟨i,B,hB,hl',by rwa [av _ _ (NF i B hB (hl hl'))]at hb⟩) (fun i j A B b hA hB la lb hi hj=>?_) (fun i B hB hr=>⟨hB,av _ _ (NF i B hB (fun e=>by subst e;cases hr))⟩)
 ·by_cases hd:B=.dead
  ·subst hd;trivial
  ·rw[av _ _ (NF i B hB hd)]
   exact(h.heap.box i B hB).stable (fun _ h _=>h) (fun _ _ _=>rfl) (KI _) (fun k hk=>av _ _ (fun e=>by rw[e,b8 hf hB]at hk;cases hk)) (fun _ _=>rfl)
 ·rw[av _ _ (NF i A hA (hl la))]at hi
  rw[av _ _ (NF j B hB (hl lb))]at hj
  exact h.heap.apart i j A B b hA hB la lb hi hj
theorem EX {S:Nat→Prop} {μ:Nat→Value} {w:World} {id:Nat} {x:Fz} (hx:Cy S μ w id x) {B:am} {u:Value} (h:az S μ w u B) (hp:∀p,p∈ww id B→s9 S μ w id x p) (ha:∀(E sz n:Nat) (gs:List Nat) (cell:Nat→Nat→D),B=.arrD E sz n gs cell→gs.all (fun g=>!(Nat.beq g id))=true):az S μ w u (dU id x B):=by
 cases B with
 | dead=>exact h
 | ro=>exact h
 | arr=>exact h
 | mpb=>exact h
 | nest=>exact h
 | grp=>exact h
 | arrD E sz n gs cell=>rw[dU,KT (ha E sz n gs cell rfl)];exact h
 | var T cs =>
  obtain⟨b,vs,e,q1,q2,q3⟩:=h
  refine⟨b,vs,e,q1,by rw[df];exact q2,fun j y z hy hz=>?_⟩
  rw[ga]at hy
  cases hc:cs[j]? with
  | none=>rw[hc]at hy;cases hy
  | some y'=>rw[hc]at hy;simp at hy;subst hy;exact fN hx (fun b hb=>hb) (q3 j y' z hc hz) (fun p h=>hp p (eF hc h))
 | loop l tm nt env ps q' bd s pe =>
  obtain⟨r,h0,h1,h2,h3,h4,h5,h6,h7,h8,h9⟩:=h
  refine⟨r,h0,h1,h2,h3,h4,h5,h6,h7,h8,fun t e hm=>?_⟩
  obtain⟨e',k1,rfl⟩:=gb hm
  exact⟨(h9 t e' k1).1,fN hx (fun b hb=>hb) (h9 t e' k1).2 (fun p h=>hp p (eG k1 h))⟩
 | frame tm env =>
  obtain⟨h1,h9⟩:=h
  refine⟨h1,fun t e hm=>?_⟩
  obtain⟨e',k1,rfl⟩:=gb hm
  exact⟨(h9 t e' k1).1,fN hx (fun b hb=>hb) (h9 t e' k1).2 (fun p h=>hp p (eG k1 h))⟩
theorem aK.recast {S:Nat→Prop} {μ:Nat→Value} {st:St} {a:Act} {w:World} (h:aK C S μ st a w) {id:Nat} {x:Fz} (hx:Cy S μ w id x) (hn:a9 id st.heap=true) (hp:∀p,p∈m4 id st.env∨p∈jV id st.heap→s9 S μ w id x p):aK C S μ ⟨f9 id x st.env,bz id x st.heap⟩ a w:=by
 have hg:∀(i:Nat) (A:am),(bz id x st.heap)[i]?=some A→∃B,st.heap[i]?=some B∧A=dU id x B:=by
  intro i A hA
  rw[fh]at hA
  cases hc:st.heap[i]? with
  | none=>rw[hc]at hA;cases hA
  | some B=>rw[hc]at hA;simp at hA;exact⟨B,rfl,hA.symm⟩
 refine h.retell (fun t d hm=>?_) (fun i A hA=>?_) (fun i A b hA hl hb=>?_) (fun i j A A' b hA Nr la lb hi hj=>?_) (fun i A hA hl=>?_)
 ·obtain⟨e,h1,rfl⟩:=gb hm
  exact⟨e,h1,fun u hu=>fN hx (fun b hb=>hb) hu (fun p h=>hp p (.inl (eG h1 h)))⟩
 ·obtain⟨B,hB,rfl⟩:=hg i A hA
  exact EX hx (h.heap.box i B hB) (fun p h=>hp p (.inr (iu hB h))) (fun E sz n gs cell e=>ms hn (e ▸ hB))
 ·obtain⟨B,hB,rfl⟩:=hg i A hA
  rw[oJ]at hl
  exact⟨i,B,hB,hl,hb⟩
 ·obtain⟨B,hB,rfl⟩:=hg i A hA
  obtain⟨B',Nf,rfl⟩:=hg j A' Nr
  rw[oJ]at la lb
  exact h.heap.apart i j B B' b hB Nf la lb hi hj
 ·obtain⟨B,hB,rfl⟩:=hg i A hA
  rw[zE]at hl
  rw[tH hl]
  exact⟨hB,rfl⟩
mutual
theorem tK {id q:Nat}:∀d:D,D.free q d=true→cj q (.nw id) (cj id (.nw q) d)=cj id (.nw id) d
 | .own i,h=>by
  simp only[D.free,K5]at h
  by_cases e:Nat.beq i id=true
  ·simp only[cj,e,L9,Fz.own]
  ·simp only[cj,e,h,Lm,L6]
 | .ptr i k sz L',h=>by
  simp only[D.free,K5]at h
  by_cases e:Nat.beq i id=true
  ·simp only[cj,e,L9,Fz.ptr]
  ·simp only[cj,e,h,Lm,L6]
 | .gr i r,h=>by
  simp only[D.free,K5]at h
  by_cases e:Nat.beq i id=true
  ·simp only[cj,e,L9,Fz.gr]
  ·simp only[cj,e,h,Lm,L6]
 | .pre i sz sh enc d l,h=>by
  simp only[D.free,K5]at h
  by_cases e:Nat.beq i id=true
  ·simp only[cj,e,L9,Fz.pre,Nat.beq_refl]
  ·simp only[cj,e,h,Lm,L6]
 | .agg cs,h=>by simp only[D.free]at h;simp only[cj,fS cs h]
 | .tup cs,h=>by simp only[D.free]at h;simp only[cj,fS cs h]
 | .fn f a b,h=>by simp only[D.free,KD]at h;simp only[cj,fS a h.1,fS b h.2]
 | .yld i,_=>rfl
 | .v _,_=>rfl
 | .nils,_=>rfl
 | .iptr _ _,_=>rfl
 | .capd _,_=>rfl
 | .junk,_=>rfl
theorem fS {id q:Nat}:∀cs:List D,D.freeL q cs=true→it q (.nw id) (it id (.nw q) cs)=it id (.nw id) cs
 | [],_=>rfl
 | c::cs,h=>by
  simp only[D.freeL,KD]at h
  simp only[it,tK c h.1,fS cs h.2]
end
theorem iv {id q:Nat}:∀{env:List (Nat×D)},bj q env=true→f9 q (.nw id) (f9 id (.nw q) env)=f9 id (.nw id) env
 | [],_=>rfl
 | (t,d)::r,h=>by
  simp only[bj,KD]at h
  simp only[f9,tK d h.1,iv h.2]
theorem Bb {id q:Nat} (B:am) (h:am.free q B=true) (ha:a9 id [B]=true):dU q (.nw id) (dU id (.nw q) B)=dU id (.nw id) B:=by
 cases B with
 | var T cs=>simp only[am.free]at h;simp only[dU,fS cs h]
 | loop l tm nt env ps a b s p=>simp only[am.free]at h;simp only[dU,iv h]
 | frame tm env=>simp only[am.free]at h;simp only[dU,iv h]
 | arrD E sz n gs cell =>
  simp only[am.free]at h
  simp only[a9,MO]at ha
  simp only[dU,h,ha,L9]
 | _=>rfl
theorem tL {id q:Nat}:∀{H:List am},aP q H=true→a9 id H=true→bz q (.nw id) (bz id (.nw q) H)=bz id (.nw id) H
 | [],_,_=>rfl
 | B::r,h,ha=>by
  simp only[aP,KD]at h
  have h1:a9 id [B]=true∧a9 id r=true:=by cases B<;>first | exact⟨rfl,ha⟩ | (simp only[a9,KD]at ha;exact⟨by simp only[a9,MO];exact ha.1,ha.2⟩)
  simp only[bz,Bb B h.1 h1.1,tL h.2 h1.2]
theorem wx {id:Nat} {x:Fz} {B:am} (hB:dU id x B=B):∀{H:List am} {k:Nat},bz id x (H.set k B)=(bz id x H).set k B
 | [],_=>rfl
 | A::r,0=>by simp only[List.set_cons_zero,bz,hB]
 | A::r,k+1=>by simp only[List.set_cons_succ,bz,wx hB]
theorem rk {id:Nat}:∀{H:List am} {B:am},a9 id H=true→B=.dead→a9 id (H++[B])=true
 | [],B,_,e=>by subst e;rfl
 | A::r,B,h,e=>by
  have h1:∀x:List am,a9 id (A::r)=true→a9 id r=true∧(a9 id x=true→a9 id (A::x)=true):=fun x ha=>by
   cases A<;>first | exact⟨ha,fun h=>h⟩ | (simp only[a9,KD]at ha ⊢;exact⟨ha.2,fun h=>⟨ha.1,h⟩⟩)
  exact(h1 _ h).2 (rk (h1 r h).1 e)
theorem tM {id:Nat} {p:mZ}:∀{H:List am} {B:am},p∈jV id (H++[B])→p∈jV id H∨p∈ww id B
 | [],B,h=>by simp only[LQ,jV,K9]at h;exact .inr h
 | A::r,B,h=>by
  simp only[My,jV,LL]at h
  rcases h with h | h
  ·exact .inl (LC _ h)
  ·rcases tM h with h | h
   ·exact .inl (Lx _ h)
   ·exact .inr h
theorem oM {id:Nat}:∀{H:List am} {B:am},aP id H=true→am.free id B=true→aP id (H++[B])=true
 | [],B,_,h=>by simp only[LQ,aP,h,MO]
 | A::r,B,h,hb=>by
  simp only[aP,KD]at h
  simp only[My,aP,KD]
  exact⟨h.1,oM h.2 hb⟩
theorem tN {id:Nat} {B:am}:∀{H:List am} {k:Nat},aP id H=true→am.free id B=true→aP id (H.set k B)=true
 | [],_,_,_=>rfl
 | A::r,0,h,hb=>by
  simp only[aP,KD]at h
  simp only[List.set_cons_zero,aP,KD]
  exact⟨hb,h.2⟩
 | A::r,k+1,h,hb=>by
  simp only[aP,KD]at h
  simp only[List.set_cons_succ,aP,KD]
  exact⟨h.1,tN h.2 hb⟩
theorem jY {id:Nat}:∀{H:List am},aP id H=true→a9 id H=true
 | [],_=>rfl
 | A::r,h=>by
  simp only[aP,KD]at h
  cases A<;>first | exact jY (H:=r) h.2 | (simp only[a9,KD];exact⟨by simpa only [am.free]using h.1,jY (H:=r) h.2⟩)
theorem mu {id k:Nat} {x:Fz}:∀{H:List am},a9 id H=true→a9 id (bz k x H)=true
 | [],_=>rfl
 | A::r,h=>by
  cases A<;>first | exact mu (H:=r) h | (simp only[a9,KD]at h;simp only[bz,dU];split<;>(simp only[a9,KD];exact⟨h.1,mu h.2⟩))
theorem my {id:Nat} {B:am}:∀{H:List am} {k:Nat},a9 id H=true→(∀(E sz n:Nat) (gs:List Nat) (cell:Nat→Nat→D),B≠.arrD E sz n gs cell)→a9 id (H.set k B)=true
 | [],_,_,_=>rfl
 | A::r,0,h,hb=>by
  have h1:a9 id r=true:=by cases A<;>first | exact h | (simp only[a9,KD]at h;exact h.2)
  simp only[List.set_cons_zero]
  cases B<;>first | exact h1 | exact absurd rfl (hb _ _ _ _ _)
 | A::r,k+1,h,hb=>by
  simp only[List.set_cons_succ]
  cases A<;>first | exact my (H:=r) h hb | (simp only[a9,KD]at h ⊢;exact⟨h.1,my h.2 hb⟩)
end
def Ev (C:jC) (c:Code) (Q:Exit→St→Prop) (st:St):Prop :=
 ∀(a:Act) (w:World) (S:Nat→Prop) (μ:Nat→Value),aK C S μ st a w→c.wpIn (jP C.rd) 0 C.P (fun e a' w'=>∃I' S' μ',Q e I'∧aK C S' μ' I' a' w') a w
def Bc (P:Program) (st:St):ResultVar→R1
 | .tmp t=>(lS st.env t,True)
 | .cell a T=>match lS st.env a with
  | .ptr id i sz L'=>zp P T st.heap (.ptr id i sz L')
  | _=>aG
def resL (P:Program) (st:St):List ResultVar→List D×Prop
 | []=>([],True)
 | r::rs=>match Bc P st r with
  | (d,p)=>match resL P st rs with
   | (ds,q)=>(d::ds,p∧q)
def Bd (P:Program) (rs:List ResultVar) (st:St):R1 :=
 match resL P st rs with
 | ([d],p)=>(d,p)
 | (ds,p)=>(.tup ds,p)
def fJ (P:Program) (fn:Func) (st:St):Prop:=(Bd P fn.results.toList st).2
def fD (P:Program) (fn:Func) (st:St):D:=(Bd P fn.results.toList st).1
section
variable {C:jC} {S:Nat→Prop} {μ:Nat→Value} {st:St} {a:Act} {w:World}
theorem aK.resL (h:aK C S μ st a w):∀(rs:List ResultVar) (ds:List D) (p:Prop),Proofs.Ytgmpoenfoacofaa.resL C.P st rs=(ds,p)→p →
  ∃us:List Value,(rs.mapM (fun r=>(match r with
   | .tmp t=>pure (a.tmps.getD t undef)
   | .cell x t=>do loadVar t (← asAddr (a.tmps.getD x undef)):Sem Value))).run C.P w=.ok us w∧us.length=ds.length∧∀(j:Nat) (y:D) (u:Value),ds[j]?=some y→us[j]?=some u→ah S μ w y u:=by
 intro rs
 induction rs with
 | nil =>
  intro ds p hp _
  simp only[Proofs.Ytgmpoenfoacofaa.resL,KJ]at hp
  obtain⟨rfl,_⟩:=hp
  exact⟨[],rfl,rfl,fun j y u hy=>by simp at hy⟩
 | cons r rs ih =>
  intro ds p hp D'
  unfold Proofs.Ytgmpoenfoacofaa.resL at hp
  generalize h1:Bc C.P st r=q1 at hp
  obtain⟨d1,p1⟩:=q1
  simp only at hp
  generalize h2:Proofs.Ytgmpoenfoacofaa.resL C.P st rs=q2 at hp
  obtain⟨ds2,p2⟩:=q2
  simp only[KJ]at hp
  obtain⟨rfl,rfl⟩:=hp
  obtain⟨us,e1,e2,e3⟩:=ih ds2 p2 h2 D'.2
  have OP:∃u,((match r with
   | .tmp t=>pure (a.tmps.getD t undef)
   | .cell x t=>do loadVar t (← asAddr (a.tmps.getD x undef)):Sem Value)).run C.P w=.ok u w∧ah S μ w d1 u:=by
   cases r with
   | tmp t =>
    simp only[Bc,KJ]at h1
    obtain⟨rfl,_⟩:=h1
    exact⟨_,rfl,h.eval (.tmp t)⟩
   | cell x T =>
    unfold Bc at h1
    simp only at h1
    split at h1
    ·rename_i id i sz L' hl
     have hv:=h.eval (.tmp x)
     simp only[dA]at hv
     rw[hl]at hv
     obtain⟨u,r1,r2⟩:=pz h.heap hv h1 D'.1
     obtain⟨b,_,hu⟩:=kK hv
     refine⟨u,?_,r2⟩
     have he:a.tmps.getD x undef=.pointer (some ⟨b,i*sz+L',none⟩):=hu
     rw[hu]at r1
     simp only[he]
     simp only[Instr.loadAt,Instr.sureAddr,KH,KZ,KG]at r1
     simp only[asAddr,KH,KZ,KG]
     exact r1
    ·cases h1;exact D'.1.elim
  obtain⟨u,f1,f2⟩:=OP
  refine⟨u::us,?_,by simp[e2],fun j y v hy hv=>?_⟩
  ·simp only[List.mapM_cons,KH,f1,KG,e1,KZ]
  ·cases j with
   | zero=>simp at hy hv;subst hy hv;exact f2
   | succ j=>exact e3 j y v (by simpa using hy) (by simpa using hv)
theorem aK.results (h:aK C S μ st a w) {fn:Func} (D':fJ C.P fn st):∃u,(results fn a.tmps).run C.P w=.ok u w∧ah S μ w (fD C.P fn st) u:=by
 unfold fJ at D'
 unfold fD
 generalize hq:Proofs.Ytgmpoenfoacofaa.resL C.P st fn.results.toList=q at D' ⊢
 obtain⟨ds,p⟩:=q
 have hp:p:=by
  unfold Bd at D'
  rw[hq]at D'
  split at D'<;>rename_i he<;>cases he<;>exact D'
 obtain⟨us,e1,e2,e3⟩:=h.resL _ _ _ hq hp
 have hm:(fn.results.mapM (fun r=>(match r with
   | .tmp t=>pure (a.tmps.getD t undef)
   | .cell x t=>do loadVar t (← asAddr (a.tmps.getD x undef)):Sem Value))).run C.P w=.ok us.toArray w:=by
  rw[Array.mapM_eq_mapM_toList]
  have hb:∀(s:Sem (List Value)) (r:List Value),s.run C.P w=.ok r w→((s.bind (Sem.pure ∘ List.toArray)):Sem (Array Value)).run C.P w=.ok r.toArray w:=by
   intro s r h
   show Sem.run C.P (s >>= (Sem.pure ∘ List.toArray)) w=_
   rw[KH,h]
   rfl
  exact hb _ _ e1
 refine⟨if h:us.toArray.size=1 then us.toArray[0]else .tuple us.toArray,?_,?_⟩
 ·unfold Go.results
  rw[KH]
  refine(congrArg (fun r=>Result.andThen r _) hm).trans ?_
  rfl
 ·unfold Bd
  rw[hq]
  cases ds with
  | nil =>
   have:us=[]:=La e2
   subst this
   exact .tup _ _ rfl (fun j y u hy=>by simp at hy)
  | cons d ds =>
   cases ds with
   | nil =>
    obtain⟨u,rfl⟩:=List.length_eq_one_iff.1 (by simpa using e2)
    exact e3 0 d u rfl rfl
   | cons d2 ds =>
    rw[dif_neg (by simp[e2])]
    exact .tup _ _ (by simp[e2]) (fun j y u hy hu=>e3 j y u hy (by simpa using hu))
end
def ge:Nat→List D→List (Nat×D)
 | _,[]=>[]
 | i,d::r=>(i,d)::ge (i+1) r
theorem tO:∀{ds:List D} {i t:Nat} {d:D},(t,d)∈ge i ds→i≤t∧ds[t-i]?=some d
 | d'::r,i,t,d,h=>by
  rcases Lv.1 h with h | h
  ·cases h;exact⟨KI _,by simp⟩
  ·obtain⟨h1,h2⟩:=tO h
   refine⟨by omega,?_⟩
   rw[show t-i=(t-(i+1))+1 from by omega]
   simpa using h2
def rm (us:Array Value) (nt:Nat):Act:={ tmps:=us++Array.replicate (nt-us.size) undef,defers:=[] }
section
variable {C C1:jC} {S:Nat→Prop} {μ:Nat→Value} {st:St} {a a1:Act} {w w':World}
theorem aK.turn (h:aK C S μ st a w) {mk mk1:List Nat} (d2:(mk1++C1.susp).Nodup)
  (d3:∀b∈mk1++C1.susp,w.heap[b]?=some (.deferred (some []))∧C.W.heap.size≤b∧¬S b∧∀(i:Nat) (A:am),st.heap[i]?=some A→A.live=true→¬bi (μ i) b)
  (hW:C1.W=C.W) (hS:C1.S0=C.S0) (hd:a1.defers=mk1.map fun b=>{ target:=.collected b,args:=#[] }) (ht:a1.tmps.size=C1.nt) {env1:List (Nat×D)}
  (he:∀(t:Nat) (d:D),(t,d)∈env1→t<C1.nt∧ah S μ w d (a1.tmps.getD t undef)):aK C1 S μ ⟨env1,st.heap⟩ a1 w :=
 ⟨by rw[hW];exact h.os,by rw[hW];exact h.tape,by rw[hW];exact h.output,by rw[hW];exact h.size,by rw[hW];exact h.old,by rw[hS];exact h.mono,by rw[hS,hW];exact h.new,h.slt,he,h.heap,by rw[hW];exact h.may,
  ⟨mk1,hd,d2,by rw[hW];exact d3⟩,ht,by rw[hW];exact h.ro⟩
theorem aK.back (h:aK C1 S μ st a1 w) {mk:List Nat} (hW:C1.W=C.W) (hS:C1.S0=C.S0) (hs:C1.susp=mk++C.susp) (hd:a.defers=mk.map fun b=>{ target:=.collected b,args:=#[] }) (ht:a.tmps.size=C.nt)
  {env:List (Nat×D)} (he:∀(t:Nat) (d:D),(t,d)∈env→t<C.nt∧ah S μ w d (a.tmps.getD t undef)):aK C S μ ⟨env,st.heap⟩ a w:=by
 obtain⟨mk',e1,e2,e3⟩:=h.defers
 rw[hs]at e2 e3
 exact h.turn (mk:=mk') (mk1:=mk) (List.nodup_append.1 e2).2.1 (fun b hb=>e3 b (Lx _ hb)) hW.symm hS.symm hd ht he
theorem aK.heapTo (h:aK C S μ st a w) {H:List am} (hH:∀(i:Nat) (B:am),H[i]?=some B→B=.dead∨st.heap[i]?=some B):aK C S μ ⟨st.env,H⟩ a w:=by
 have live:∀(i:Nat) (B:am),H[i]?=some B→B.live=true→st.heap[i]?=some B:=fun i B hB hl=>by
  rcases hH i B hB with rfl | h1
  ·cases hl
  ·exact h1
 refine⟨h.os,h.tape,h.output,h.size,h.old,h.mono,h.new,h.slt,h.env,⟨fun i B hB=>?_,fun i j A B b hA hB la lb=>h.heap.apart i j A B b (live i A hA la) (live j B hB lb) la lb,fun i A b hA la=>h.heap.notS i A b (live i A hA la) la⟩,
  fun i A b hA la=>h.may i A b (live i A hA la) la,?_,h.tsize,fun i A b hA la=>?_⟩
 ·rcases hH i B hB with rfl | h1
  ·trivial
  ·exact h.heap.box i B h1
 ·obtain⟨mk,d1,d2,d3⟩:=h.defers
  refine⟨mk,d1,d2,fun b hb=>?_⟩
  obtain⟨q1,q2,q3,q4⟩:=d3 b hb
  exact⟨q1,q2,q3,fun i A hA hl=>q4 i A (live i A hA hl) hl⟩
 ·rcases hH i A hA with rfl | h1
  ·cases la
  ·exact h.ro i A b h1 la
theorem aK.shut (h:aK C S μ st a w) {b:Nat} {ds:List Deferred} (hd:a.defers={ target:=.collected b,args:=#[] }::ds) :
  w.heap[b]?=some (.deferred (some []))∧aK C S μ st { a with defers:=ds } (w.putObj b (.deferred none)):=by
 obtain⟨mk,d1,d2,d3⟩:=h.defers
 cases mk with
 | nil=>rw[hd]at d1;cases d1
 | cons b' mk =>
  rw[hd]at d1
  simp only[LD,LM,Deferred.mk.injEq,Target.collected.injEq,MQ]at d1
  obtain⟨rfl,d1⟩:=d1
  obtain⟨q1,q2,q3,q4⟩:=d3 b (by simp)
  have M6:b<w.heap.size:=(KQ.1 q1).1
  have NF:∀k,k≠b→(w.putObj b (.deferred none)).heap[k]?=w.heap[k]?:=fun k hk=>Me hk
  have hS:∀k,S k→(w.putObj b (.deferred none)).heap[k]?=w.heap[k]?:=fun k hk=>NF k (fun e=>q3 (e ▸ hk))
  have M0:(w.putObj b (.deferred none)).heap.size=w.heap.size:=MB
  refine⟨q1,h.os,h.tape,h.output,by rw[M0];exact h.size,fun k hk=>by rw[NF k (by omega)];exact h.old k hk,h.mono,h.new,fun k hk=>by rw[M0];exact h.slt k hk,fun t d hm=>?_,⟨fun i A hA=>?_,h.heap.apart,h.heap.notS⟩,h.may,⟨mk,d1,?_,fun k hk=>?_⟩,h.tsize,h.ro⟩
  ·obtain⟨r1,r2⟩:=h.env t d hm
   exact⟨r1,r2.stable (fun _ h _=>h) (fun k hk _=>hS k hk) (by rw[M0];exact KI _) (fun _ _=>rfl)⟩
  ·rcases A.three with rfl | hl | hl
   ·trivial
   ·exact(h.heap.box i A hA).stable (fun _ h _=>h) (fun k hk _=>hS k hk) (by rw[M0];exact KI _) (fun _ _=>rfl) (fun k hk=>NF k (fun e=>q4 i A hA hl (e ▸ hk)))
   ·exact(h.heap.box i A hA).stable (fun _ h _=>h) (fun k hk _=>hS k hk) (by rw[M0];exact KI _) (fun _ _=>rfl) (fun k hk=>NF k (fun e=>by have:=h.ro i A k hA hl hk;omega))
  ·rw[My]at d2
   exact(List.nodup_cons.1 d2).2
  ·obtain⟨r1,r2,r3,r4⟩:=d3 k (by rw[My];exact Lc _ hk)
   have Sv:k≠b:=fun e=>by
    rw[My]at d2
    exact(List.nodup_cons.1 d2).1 (e ▸ hk)
   exact⟨by rw[NF k Sv];exact r1,r2,r3,r4⟩
theorem aK.leaves {fn:Func} (D':fJ C.P fn st) {F:Fence} {R:Ending→World→Prop}:∀(ds:List Deferred) (a:Act) (w:World),a.defers=ds→aK C S μ st a w →
  (∀w' a' u,aK C S μ st a' w'→ah S μ w' (fD C.P fn st) u→R (.returned u) w')→LeavesInM F 0 C.P fn a.tmps R ds .returning w
 | [],a,w,hd,h,hK=>by
  obtain⟨u,h1,h2⟩:=h.results D'
  exact⟨u,h1,hK w a u h h2⟩
 | d::ds,a,w,hd,h,hK=>by
  have Q6:∃b,d={ target:=.collected b,args:=#[] }:=by
   obtain⟨mk,d1,_⟩:=h.defers
   rw[hd]at d1
   cases mk with
   | nil=>cases d1
   | cons b mk=>exact⟨b,by simp only[LD,LM]at d1;exact d1.1⟩
  obtain⟨b,rfl⟩:=Q6
  obtain⟨q1,q2⟩:=h.shut hd
  refine⟨by simp,.inl ⟨b,_,rfl,run_takeDeferred q1,?_⟩⟩
  exact aK.leaves D' ds { a with defers:=ds } _ rfl q2 hK
theorem gX {f:FuncId} {fn:Func} {c:Code} (hf:C.P.funcs[f]?=some fn) (hb:fn.body=some c) (hrd:C.rd=none) {us:Array Value} {Q:Exit→St→Prop}
  (hR:aK C S μ st (rm us fn.ntmps) w) (hev:Ev C c Q st) (hQ:∀e I',Q e I'→(e=.normal∨e=.ret)∧fJ C.P fn I') :
  Calls C.P f us w (fun e w'=>∃u e0 I' S' μ' a',e=.returned u∧Q e0 I'∧aK C S' μ' I' a' w'∧ah S' μ' w' (fD C.P fn I') u):=by
 have h:=hev _ w S μ hR
 rw[hrd]at h
 refine callsIn_wide.1 (callsIn_of_wp_marks (n:=0) hf hb trivial (wpIn_mono h ?_))
 rintro e a' w' ⟨I',S',μ',hq,Nx⟩
 obtain⟨he,D'⟩:=hQ e I' hq
 have key:LeavesInM Fence.wide 0 C.P fn a'.tmps (fun e w'=>∃u e0 I' S' μ' a',e=.returned u∧Q e0 I'∧aK C S' μ' I' a' w'∧ah S' μ' w' (fD C.P fn I') u) a'.defers .returning w' :=
  Nx.leaves D' a'.defers a' w' rfl (fun w2 a2 u Qt hu=>⟨u,e,I',S',μ',a2,rfl,hq,Qt,hu⟩)
 rcases he with rfl | rfl
 ·exact key
 ·exact key
end
theorem qs {S:Nat→Prop} {μ:Nat→Value} {w:World} {ds:List D} {us:Array Value} (h:aE S μ w ds us) {nt:Nat} (hn:ds.length≤nt):∀(t:Nat) (d:D),(t,d)∈ge 0 ds→t<nt∧ah S μ w d ((rm us nt).tmps.getD t undef):=by
 intro t d hm
 obtain⟨_,h2⟩:=tO hm
 rw[Nat.sub_zero]at h2
 have ht:=(KE.1 h2).1
 refine⟨by omega,?_⟩
 have M6:t<us.size:=by rw[h.1];exact ht
 have:(us++Array.replicate (nt-us.size) undef).getD t undef=us[t]:=by
  simp only[Lr]
  rw[Array.getElem?_append_left M6]
  simp[M6]
 show ah S μ w d ((us++Array.replicate (nt-us.size) undef).getD t undef)
 rw[this]
 exact h.2 t d _ h2 (K0 M6)
theorem m6 {ds:List D} {us:Array Value} (h:us.size=ds.length) {nt:Nat} (hn:ds.length≤nt):(rm us nt).tmps.size=nt:=by
 show(us++Array.replicate (nt-us.size) undef).size=nt
 simp
 omega
def V.flat:V→Bool
 | .int _ _=>true
 | .bool _=>true
 | .str _=>true
 | .nilf=>true
 | _=>false
def lV:am→Prop
 | .arr _ _ enc _ l=>∀x∈l,∀y∈enc x,y.flat=true
 | _=>False
theorem ci.flat {S S':Nat→Prop} {w:World} {x:V} {u:Value} (h:ci S w x u) (hx:x.flat=true):ci S' w x u:=by
 cases h<;>first | (cases hx;done) | constructor
theorem az.flat {S S':Nat→Prop} {μ μ':Nat→Value} {w:World} {u:Value} {B:am} (h:az S μ w u B) (hB:lV B):az S' μ' w u B:=by
 cases B with
 | arr E sz enc d l =>
  obtain⟨h0,xs,h1,h3⟩:=h
  refine⟨h0,xs,h1,fun i x j y hx hy=>?_⟩
  obtain⟨z,hz,hr⟩:=h3 i x j y hx hy
  exact⟨z,hz,hr.flat (hB x (Lb hx) y (Lb hy))⟩
 | _=>exact hB.elim
theorem tP {B:am} (h:lV B):B.isArr=true:=by
 cases B<;>first | rfl | exact h.elim
def scal:D→Bool
 | .v x=>x.flat
 | _=>false
def tQ:List D→Bool
 | []=>true
 | .own i::cs=>Nat.beq i 0&&tQ cs
 | c::cs=>scal c&&tQ cs
def ye:D→Bool
 | .own i=>Nat.beq i 0
 | .gr i _=>Nat.beq i 0
 | .agg cs=>tQ cs
 | _=>false
def J3 (n:Nat):D→D
 | .own _=>.own n
 | d=>d
def D.up (n:Nat):D→D
 | .own _=>.own n
 | .gr _ r=>.gr n r
 | .agg cs=>.agg (cs.map (J3 n))
 | d=>d
theorem tR:∀{cs:List D} {j:Nat} {c:D},tQ cs=true→cs[j]?=some c→c=.own 0∨scal c=true
 | [],j,c,_,h=>by simp at h
 | x::cs,0,c,h,hc=>by
  simp at hc
  subst hc
  cases x<;>simp only[tQ,KD]at h<;>first | exact .inr h.1 | (have:=KU.mp h.1;subst this;exact .inl rfl)
 | x::cs,j+1,c,h,hc=>by
  refine tR (cs:=cs) (j:=j) ?_ (by simpa using hc)
  cases x<;>simp only[tQ,KD]at h<;>exact h.2
theorem EY {S S':Nat→Prop} {μ μ':Nat→Value} {w:World} {c:D} {u:Value} {n:Nat} (h:ah S μ w c u) (hc:c=.own 0∨scal c=true) (hm:μ' n=μ 0):ah S' μ' w (J3 n c) u:=by
 rcases hc with rfl | hc
 ·cases h
  rw[← hm]
  exact .own n
 ·cases c<;>first | cases hc | skip
  cases h with
  | v _ _ h=>exact .v _ _ (h.flat hc)
theorem yf {S S':Nat→Prop} {μ μ':Nat→Value} {w:World} {r:D} {u:Value} {n:Nat} (h:ah S μ w r u) (hr:ye r=true) (hm:μ' n=μ 0):ah S' μ' w (r.up n) u:=by
 cases r<;>first | cases hr | skip
 ·rename_i i
  have:=KU.mp hr
  subst this
  cases h
  rw[← hm]
  exact .own n
 ·rename_i cs
  cases h with
  | agg _ us h1 h2 =>
   refine .agg _ us (by rw[KM];exact h1) (fun j y x hy hx=>?_)
   rw[KX,Option.map_eq_some_iff]at hy
   obtain⟨c,hc,rfl⟩:=hy
   exact EY (h2 j c x hc hx) (tR hr hc) hm
 ·rename_i i r
  have:=KU.mp hr
  subst this
  cases h with
  | gr _ _ us _ h1 h2 h3=>exact .gr n r us u (by rw[hm];exact h1) h2 h3
theorem az.arrMu {S:Nat→Prop} {μ μ':Nat→Value} {w:World} {u:Value} {B:am} (h:az S μ w u B) (hB:B.isOwn=true):az S μ' w u B:=by
 cases B<;>first | (cases hB;done) | exact h
theorem jZ {w:World} {E sz n b:Nat} {u:Value} {xs:List Value} (h:w.ownsRow 0 E sz u n xs) (hb:aA u=some b):∃cs T x,w.heap[b]?=some (.cells cs T x):=by
 obtain⟨_,h2⟩:=h
 rcases h2 with ⟨rfl,_⟩ | ⟨g,cap,Na,rfl,hg,hh2,r⟩
 ·simp[aA]at hb
 ·simp[aA]at hb
  subst hb
  exact⟨_,_,_,hh2⟩
theorem az.ownBlk {S:Nat→Prop} {μ:Nat→Value} {w:World} {u:Value} {B:am} {b:Nat} (h:az S μ w u B) (hB:B.isOwn=true) (hb:bi u b):∃cs T x,w.heap[b]?=some (.cells cs T x):=by
 cases B<;>first | (cases hB;done) | skip
 ·obtain⟨_,xs,h2,_⟩:=h
  refine jZ h2 ?_
  rcases hb with hb | ⟨us,rfl,_⟩
  ·exact hb
  ·rcases h2.2 with ⟨h2,_⟩ | ⟨_,_,_,h2,_⟩<;>cases h2
 ·obtain⟨us,rfl,h1,⟨v0,xs,g1,g2,g3,g4⟩,h2,h3⟩:=h
  rcases hb with hb | ⟨N8,he,k,x,hx,hb⟩
  ·simp[aA]at hb
  ·cases he
   cases k with
   | zero=>rw[g1]at hx;cases hx;exact jZ g3 hb
   | succ k=>obtain⟨_,_,xs,h,_⟩:=h2 k x hx;exact jZ h hb
section
variable {C:jC} {S:Nat→Prop} {μ:Nat→Value} {st:St} {a:Act} {w:World}
theorem aK.addBoxA (h:aK C S μ st a w) (hf:bj st.heap.length st.env=true) (hh:aP st.heap.length st.heap=true) {B:am} {u:Value} (RU:B.isOwn=true) {μ1:Nat→Value} (G':az S μ1 w u B)
  (Nb:∀b,bi u b→C.W.heap.size≤b∧¬S b∧∀(i:Nat) (A:am),st.heap[i]?=some A→A.live=true→¬bi (μ i) b):aK C S (aM μ st.heap.length u) ⟨st.env,st.heap++[B]⟩ a w:=by
 have M':∀i,i<st.heap.length→aM μ st.heap.length u i=μ i:=fun i hi=>av _ _ (by omega)
 have N6:∀(i:Nat) (A:am),(st.heap++[B])[i]?=some A→(i<st.heap.length∧st.heap[i]?=some A)∨(i=st.heap.length∧A=B):=by
  intro i A hA
  by_cases hi:i<st.heap.length
  ·rw[KL hi]at hA
   exact .inl ⟨hi,hA⟩
  ·rw[KR (by omega)]at hA
   by_cases e:i-st.heap.length=0
   ·rw[e]at hA
    simp at hA
    exact .inr ⟨by omega,hA.symm⟩
   ·obtain⟨k,hk⟩:∃k,i-st.heap.length=k+1:=⟨i-st.heap.length-1,by omega⟩
    rw[hk]at hA
    simp at hA
 refine⟨h.os,h.tape,h.output,h.size,h.old,h.mono,h.new,h.slt,?_,⟨?_,?_,?_⟩,?_,?_,h.tsize,?_⟩
 ·intro t d hm
  obtain⟨q1,q2⟩:=h.env t d hm
  exact⟨q1,q2.stable (fun _ h _=>h) (fun _ _ _=>rfl) (KI _) (fun id M5=>av _ _ (fun e=>by rw[e,cE hf hm]at M5;cases M5))⟩
 ·intro i A hA
  rcases N6 i A hA with ⟨hi,hA⟩ | ⟨rfl,rfl⟩
  ·rw[M' i hi]
   exact(h.heap.box i A hA).stable (fun _ h _=>h) (fun _ _ _=>rfl) (KI _) (fun id M5=>av _ _ (fun e=>by rw[e,b8 hh hA]at M5;cases M5)) (fun _ _=>rfl)
  ·rw[ao]
   exact G'.arrMu RU
 ·intro i j A A' b hA Nr la QQ hb Nn
  have g1:=N6 i A hA
  have g2:=N6 j A' Nr
  clear hA Nr
  rcases g1 with ⟨hi,hA⟩ | ⟨ei,eA⟩<;>rcases g2 with ⟨hj,Nr⟩ | ⟨ej,eA'⟩
  ·rw[M' i hi]at hb;rw[M' j hj]at Nn
   exact h.heap.apart i j A A' b hA Nr la QQ hb Nn
  ·rw[M' i hi]at hb;rw[ej,ao]at Nn
   exact((Nb b Nn).2.2 i A hA la hb).elim
  ·rw[M' j hj]at Nn;rw[ei,ao]at hb
   exact((Nb b hb).2.2 j A' Nr QQ Nn).elim
  ·rw[ei,ej]
 ·intro i A b hA la hb
  rcases N6 i A hA with ⟨hi,hA⟩ | ⟨rfl,rfl⟩
  ·rw[M' i hi]at hb
   exact h.heap.notS i A b hA la hb
  ·rw[ao]at hb
   exact(Nb b hb).2.1
 ·intro i A b hA la hb
  rcases N6 i A hA with ⟨hi,hA⟩ | ⟨rfl,rfl⟩
  ·rw[M' i hi]at hb
   exact h.may i A b hA la hb
  ·rw[ao]at hb
   exact(Nb b hb).1
 ·obtain⟨mk,e1,e2,e3⟩:=h.defers
  refine⟨mk,e1,e2,fun b hb=>?_⟩
  obtain⟨g1,g2,g3,g4⟩:=e3 b hb
  refine⟨g1,g2,g3,fun i A hA la Oe=>?_⟩
  rcases N6 i A hA with ⟨hi,hA⟩ | ⟨rfl,rfl⟩
  ·rw[M' i hi]at Oe
   exact g4 i A hA la Oe
  ·rw[ao]at Oe
   obtain⟨cs,T,x,hh2⟩:=G'.ownBlk RU Oe
   rw[hh2]at g1
   simp at g1
 ·intro i A b hA la hb
  rcases N6 i A hA with ⟨hi,hA⟩ | ⟨rfl,rfl⟩
  ·rw[M' i hi]at hb
   exact h.ro i A b hA la hb
  ·cases A<;>first | (cases RU;done) | cases la
theorem aK.addBox (h:aK C S μ st a w) (hf:bj st.heap.length st.env=true) (hh:aP st.heap.length st.heap=true) {B:am} {u:Value} (RS:lV B) {S1:Nat→Prop} {μ1:Nat→Value} (G':az S1 μ1 w u B)
  (Nb:∀b,bi u b→C.W.heap.size≤b∧¬S b∧∀(i:Nat) (A:am),st.heap[i]?=some A→A.live=true→¬bi (μ i) b):aK C S (aM μ st.heap.length u) ⟨st.env,st.heap++[B]⟩ a w :=
 h.addBoxA hf hh (am.isOwn_arr (tP RS)) (μ1:=μ) (G'.flat RS) Nb
def u9 (P:Program) (g:FuncId) (H:List am) (ds:List D) (q':Option (List D)) (r:D) (B:am):Prop :=
 match q' with
 | none=>lV B∧ai P g ds [] false r [B]
 | some q'=>lV B∧tE H ds q'∧ai P g q' [] false r [B]
theorem aK.callCoreO (h:aK C S μ st a w) {f:FuncId} {q':List D} {r:D} {B:am} {us:Array Value} (RS:lV B) (hc:ai C.P f q' [] false r [B]) {S1:Nat→Prop} (h1:∀b,S b→S1 b) (h2:∀b,S1 b→b<w.heap.size)
  (Nj:aE S1 μ w q' us) (hr:ye r=true) (hf:bj st.heap.length st.env=true) (hh:aP st.heap.length st.heap=true) {K:Value→World→Prop} (hK:∀S' μ' u w',aK C S' μ' ⟨st.env,st.heap++[B]⟩ a w'→ah S' μ' w' (r.up st.heap.length) u→K u w') :
  Calls C.P f us w (fun e w'=>∃u,e=.returned u∧K u w'):=by
 have slt:=h.slt
 refine(hc S1 μ w us h2 (h.glob.stable (fun b hb _=>h1 b hb) (fun _ _ _=>rfl) (KI _)) ⟨fun id B hB=>by simp at hB,fun i j A B b hA=>by simp at hA,fun i A b hA=>by simp at hA⟩ Nj).mono ?_
 rintro e w' ⟨u,μ',S',rfl,q1,q2,q3,q4,q5,q6,q7,q8,q9,q10,q11,_⟩
 have hR:aK C S μ st a w':=h.grow q1 q2 q3 q4 (fun k hk=>q5 k hk (fun i A hA=>by simp at hA)) (fun b hb=>hb) (fun b hb=>.inl hb) (fun b hb=>LA (slt b hb) q4)
 have G':=q10.box 0 B rfl
 have hl:B.live=true:=by have:=tP RS;cases B<;>first | rfl | cases this
 refine⟨u,rfl,hK S (aM μ st.heap.length (μ' 0)) u w' (hR.addBox hf hh RS G' (fun b hb=>?_)) (yf q9 hr (ao _ _ _))⟩
 have Nb:w.heap.size≤b:=by
  rcases q11 0 B b rfl hl hb with hb | ⟨j,A',Nr,_⟩
  ·exact hb
  ·simp at Nr
 refine⟨LO h.size Nb,fun hS=>by have:=slt b hS;omega,fun i A hA la Oe=>?_⟩
 have:=(h.heap.box i A hA).lt la b Oe
 omega
theorem aK.callOwn (h:aK C S μ st a w) {f:FuncId} {ds:List D} {q':Option (List D)} {r:D} {B:am} {us:Array Value} (hc:u9 C.P f st.heap ds q' r B) (Nj:aE S μ w ds us) (hr:ye r=true)
  (hf:bj st.heap.length st.env=true) (hh:aP st.heap.length st.heap=true) {K:Value→World→Prop} (hK:∀S' μ' u w',aK C S' μ' ⟨st.env,st.heap++[B]⟩ a w'→ah S' μ' w' (r.up st.heap.length) u→K u w') :
  Calls C.P f us w (fun e w'=>∃u,e=.returned u∧K u w'):=by
 cases q' with
 | none=>exact h.callCoreO hc.1 hc.2 (fun _ h=>h) h.slt Nj hr hf hh hK
 | some q' =>
  obtain⟨RS,hco,hc⟩:=hc
  have slt:=h.slt
  have hSc:∀b,(S b∨∃(i:Nat) (A:am),st.heap[i]?=some A∧A.mem=true∧bi (μ i) b)→b<w.heap.size:=by
   rintro b (hb | ⟨i,A,hA,hl,hb⟩)
   ·exact slt b hb
   ·exact(h.heap.box i A hA).ltM hl b hb
  refine h.callCoreO RS hc (S1:=fun b=>S b∨∃(i:Nat) (A:am),st.heap[i]?=some A∧A.mem=true∧bi (μ i) b) (fun b hb=>.inl hb) hSc ?_ hr hf hh hK
  exact i3 h.heap (fun b hb=>.inl hb) slt (.inl (fun i A b hA hl hb=>.inr ⟨i,A,hA,hl,hb⟩)) hco Nj
def qt (P:Program) (g:FuncId) (H:List am) (ds:List D) (q':Option (List D)) (r:D) (B:am):Prop :=
 match q' with
 | none=>ai P g ds [] false r [B]
 | some q'=>tE H ds q'∧ai P g q' [] false r [B]
theorem aK.callDeep (h:aK C S μ st a w) {f:FuncId} {ds:List D} {q':Option (List D)} {r:D} {B:am} {us:Array Value} (hc:qt C.P f st.heap ds q' r B) (Nj:aE S μ w ds us) (hr:ye r=true) (hB:B.isOwn=true) (N1:d7 ds=true)
  (hf:bj st.heap.length st.env=true) (hh:aP st.heap.length st.heap=true) {K:Value→World→Prop} (hK:∀S' μ' u w',aK C S' μ' ⟨st.env,st.heap++[B]⟩ a w'→ah S' μ' w' (r.up st.heap.length) u→K u w') :
  Calls C.P f us w (fun e w'=>∃u,e=.returned u∧K u w'):=by
 obtain⟨Ql,hc',Q4⟩:∃Ql,ai C.P f Ql [] false r [B]∧aE S μ w Ql us:=by
  cases q' with
  | none=>exact⟨ds,hc,Nj⟩
  | some q'=>exact⟨q',hc.2,i3 h.heap (fun _ h=>h) h.slt (.inr N1) hc.1 Nj⟩
 have slt:=h.slt
 refine(hc' S μ w us slt h.glob ⟨fun id B hB=>by simp at hB,fun i j A B b hA=>by simp at hA,fun i A b hA=>by simp at hA⟩ Q4).mono ?_
 rintro e w' ⟨u,μ',S',rfl,q1,q2,q3,q4,q5,q6,q7,q8,q9,q10,q11,_⟩
 have hR:aK C S' μ st a w':=h.grow q1 q2 q3 q4 (fun k hk=>q5 k hk (fun i A hA=>by simp at hA)) q6 q7 q8
 have G':=q10.box 0 B rfl
 have hl:B.live=true:=by cases B<;>first | rfl | cases hB
 refine⟨u,rfl,hK S' (aM μ st.heap.length (μ' 0)) u w' (hR.addBoxA hf hh hB G' (fun b hb=>?_)) (yf q9 hr (ao _ _ _))⟩
 have Nb:w.heap.size≤b:=by
  rcases q11 0 B b rfl hl hb with hb | ⟨j,A',Nr,_⟩
  ·exact hb
  ·simp at Nr
 refine⟨LO h.size Nb,q10.notS 0 B b rfl hl hb,fun i A hA la Oe=>?_⟩
 have:=(h.heap.box i A hA).lt la b Oe
 omega
def Cz (j i:Nat):List (Nat×D)→Option (List (Nat×D))
 | []=>some []
 | (t,d)::r=>match Cz j i r with
  | some r'=>match d with
   | .own k=>if Nat.beq k j then some ((t,.own i)::r')else if Nat.beq k i then none else some ((t,.own k)::r')
   | d=>if D.free j d&&D.free i d then some ((t,d)::r')else none
  | none=>none
theorem wy {j i:Nat}:∀{env OL:List (Nat×D)} {t:Nat} {d':D},Cz j i env=some OL→(t,d')∈OL→∃d,(t,d)∈env∧((d=.own j∧d'=.own i)∨(d'=d∧D.free j d=true∧D.free i d=true))
 | [],OL,t,d',h,hm=>by
  simp only[Cz,KP]at h
  subst h
  simp at hm
 | (s,e)::r,OL,t,d',h,hm=>by
  unfold Cz at h
  split at h
  ·rename_i r' hr'
   have tail:(t,d')∈r'→∃d,(t,d)∈(s,e)::r∧((d=.own j∧d'=.own i)∨(d'=d∧D.free j d=true∧D.free i d=true)):=fun hm=>by
    obtain⟨d,h1,h2⟩:=wy hr' hm
    exact⟨d,Lc _ h1,h2⟩
   split at h
   ·rename_i k
    split at h
    ·rename_i hk
     simp only[KP]at h
     subst h
     rcases Lv.1 hm with hm | hm
     ·cases hm
      have:=KU.mp hk
      subst this
      exact⟨_,Lg ..,.inl ⟨rfl,rfl⟩⟩
     ·exact tail hm
    ·rename_i hk
     split at h
     ·cases h
     ·rename_i Ou
      simp only[KP]at h
      subst h
      rcases Lv.1 hm with hm | hm
      ·cases hm
       refine⟨_,Lg ..,.inr ⟨rfl,?_,?_⟩⟩
       ·simp only[D.free];simp only[MF]at hk;rw[hk];rfl
       ·simp only[D.free];simp only[MF]at Ou;rw[Ou];rfl
      ·exact tail hm
   ·split at h
    ·rename_i hc
     simp only[KD]at hc
     simp only[KP]at h
     subst h
     rcases Lv.1 hm with hm | hm
     ·cases hm
      exact⟨_,Lg ..,.inr ⟨rfl,hc.1,hc.2⟩⟩
     ·exact tail hm
    ·cases h
  ·cases h
def zF (j i:Nat) (st:St):Option St :=
 if aP i st.heap&&aP j st.heap&&!(Nat.beq i j)&&Nat.blt i st.heap.length then
  match st.heap[j]? with
  | some (.arr E sz enc d l)=>match Cz j i st.env with
   | some env=>some ⟨env,(st.heap.set i (.arr E sz enc d l)).set j .dead⟩
   | none=>none
  | _=>none
 else none
theorem aK.move (h:aK C S μ st a w) {j i:Nat} {I':St} (hm:zF j i st=some I'):aK C S (aM μ i (μ j)) I' a w:=by
 unfold zF at hm
 split at hm
 ·rename_i hc
  simp only[KD,K5,Mq]at hc
  obtain⟨⟨⟨fi,fj⟩,hij⟩,M6⟩:=hc
  have hij:i≠j:=fun e=>by rw[e]at hij;simp at hij
  split at hm
  ·rename_i E sz α enc d l hj
   split at hm
   ·rename_i env he
    simp only[KP]at hm
    subst hm
    have hjl:j<st.heap.length:=(KE.1 hj).1
    have N6:∀(k:Nat) (A:am),((st.heap.set i (am.arr E sz enc d l)).set j .dead)[k]?=some A→(k=j∧A=.dead)∨(k=i∧A=am.arr E sz enc d l)∨(k≠i∧k≠j∧st.heap[k]?=some A):=by
     intro k A hA
     by_cases e1:k=j
     ·subst e1
      rw[KY (by rw[LF];exact hjl)]at hA
      exact .inl ⟨rfl,by cases hA;rfl⟩
     ·rw[KW (fun e=>e1 e.symm)]at hA
      by_cases e2:k=i
      ·subst e2
       rw[KY M6]at hA
       exact .inr (.inl ⟨rfl,by cases hA;rfl⟩)
      ·rw[KW (fun e=>e2 e.symm)]at hA
       exact .inr (.inr ⟨e2,e1,hA⟩)
    have NJ:(am.arr E sz enc d l).live=true:=rfl
    have Rn:∀k,k≠i→aM μ i (μ j) k=μ k:=fun k hk=>av _ _ hk
    refine⟨h.os,h.tape,h.output,h.size,h.old,h.mono,h.new,h.slt,?_,⟨?_,?_,?_⟩,?_,?_,h.tsize,?_⟩
    ·intro t d' P0
     obtain⟨d0,h0,hd⟩:=wy he P0
     obtain⟨q1,q2⟩:=h.env t d0 h0
     refine⟨q1,?_⟩
     rcases hd with ⟨rfl,rfl⟩ | ⟨rfl,g1,g2⟩
     ·generalize hu:a.tmps.getD t undef=u at q2
      cases q2
      have:=ah.own (S:=S) (μ:=aM μ i (μ j)) (w:=w) i
      rwa [ao]at this
     ·exact q2.stable (fun _ h _=>h) (fun _ _ _=>rfl) (KI _) (fun id M5=>Rn id (fun e=>by rw[e,g2]at M5;cases M5))
    ·intro k A hA
     rcases N6 k A hA with ⟨rfl,rfl⟩ | ⟨rfl,rfl⟩ | ⟨h1,h2,hA⟩
     ·trivial
     ·rw[ao]
      exact(h.heap.box j _ hj).stable (fun _ h _=>h) (fun _ _ _=>rfl) (KI _) (fun id M5=>by cases M5) (fun _ _=>rfl)
     ·rw[Rn k h1]
      exact(h.heap.box k A hA).stable (fun _ h _=>h) (fun _ _ _=>rfl) (KI _) (fun id M5=>Rn id (fun e=>by rw[e,b8 fi hA]at M5;cases M5)) (fun _ _=>rfl)
    ·intro k m A A' b hA Nr la QQ hb Nn
     have g1:=N6 k A hA
     have g2:=N6 m A' Nr
     clear hA Nr
     rcases g1 with ⟨rfl,rfl⟩ | ⟨rfl,rfl⟩ | ⟨h1,h2,hA⟩<;>rcases g2 with ⟨rfl,rfl⟩ | ⟨rfl,rfl⟩ | ⟨h3,h4,Nr⟩<;>first | (cases la;done) | (cases QQ;done) | rfl | skip
     ·rw[ao]at hb;rw[Rn m h3]at Nn
      exact(h4 (h.heap.apart j m _ _ b hj Nr NJ QQ hb Nn).symm).elim
     ·rw[ao]at Nn;rw[Rn k h1]at hb
      exact(h2 (h.heap.apart k j _ _ b hA hj la NJ hb Nn)).elim
     ·rw[Rn k h1]at hb;rw[Rn m h3]at Nn
      exact h.heap.apart k m A A' b hA Nr la QQ hb Nn
    ·intro k A b hA la hb
     rcases N6 k A hA with ⟨rfl,rfl⟩ | ⟨rfl,rfl⟩ | ⟨h1,h2,hA⟩
     ·cases la
     ·rw[ao]at hb;exact h.heap.notS j _ b hj NJ hb
     ·rw[Rn k h1]at hb;exact h.heap.notS k A b hA la hb
    ·intro k A b hA la hb
     rcases N6 k A hA with ⟨rfl,rfl⟩ | ⟨rfl,rfl⟩ | ⟨h1,h2,hA⟩
     ·cases la
     ·rw[ao]at hb;exact h.may j _ b hj NJ hb
     ·rw[Rn k h1]at hb;exact h.may k A b hA la hb
    ·obtain⟨mk,e1,e2,e3⟩:=h.defers
     refine⟨mk,e1,e2,fun b hb=>?_⟩
     obtain⟨g1,g2,g3,g4⟩:=e3 b hb
     refine⟨g1,g2,g3,fun k A hA la Oe=>?_⟩
     rcases N6 k A hA with ⟨rfl,rfl⟩ | ⟨rfl,rfl⟩ | ⟨h1,h2,hA⟩
     ·cases la
     ·rw[ao]at Oe;exact g4 j _ hj NJ Oe
     ·rw[Rn k h1]at Oe;exact g4 k A hA la Oe
    ·intro k A b hA la hb
     rcases N6 k A hA with ⟨rfl,rfl⟩ | ⟨rfl,rfl⟩ | ⟨h1,h2,hA⟩
     ·cases la
     ·cases la
     ·rw[Rn k h1]at hb;exact h.ro k A b hA la hb
   ·cases hm
  ·cases hm
 ·cases hm
end
end Go.Proofs.Ytgmpoenfoacofaa
