/-
  Values,memory and effects on pure data. Generic: over any program.
-/
import Derived.Test.YtckgpflobhpnpaaGreatQGlb
namespace Go.Proofs.YtckgpflobhpnpaaGreat
open Go.RowKit
set_option linter.unusedVariables false
set_option linter.unusedSimpArgs false
def od:Option Nat→Fence
 | none=>Fence.wide
 | some l=>Fence.wide.inRound l
theorem pV (rd:Option Nat) (f:FuncId):(od rd).fn f:=by cases rd<;>trivial
theorem xj (rd:Option Nat):(od rd).depth=none:=by cases rd<;>rfl
theorem Cr (P:Program) (rd:Option Nat):Machine.fenced P (od rd)=Machine.fenced P Fence.wide:=by cases rd<;>rfl
theorem AF {rd:Option Nat} {n:Nat} {P:Program} {f:FuncId} {args:Array Value} {w:World} {R:Ending→World→Prop} (h:Calls P f args w R):CallsIn (od rd) n P f args w R:=by
 have h':CallsIn Fence.wide n P f args w R:=callsIn_wide.2 h
 cases rd with
 | none=>exact h'
 | some l=>exact h'.inRound l
theorem Cs {rd:Option Nat} {n:Nat} {P:Program} {row:String} {args:Array Value} {w:World} {R:Value→World→Prop} (h:Rows P row args w R):RowsIn (od rd) n P row args w R :=
 fun c cs _=>let ⟨v,w',r,s⟩:=h c cs;⟨v,w',r,by rw[Cr];exact stepsIn_wide.2 s⟩
theorem jv {rd:Option Nat} {P:Program} {o:Oper} {a:Act} {K:Act→World→Prop} {Q:Exit→Act→World→Prop} {r:Result Next} (h:o.upon P a K Q r):o.uponIn (od rd) 0 P a K Q r:=by
 have hd:(od rd).depth.isSome=true→1≤0:=fun h=>by rw[xj]at h;cases h
 cases r with
 | ok x w' =>
  cases x<;>simp only[Oper.upon]at h<;>simp only[Oper.uponIn]<;>first
   | exact h
   | exact⟨hd,AF h⟩
   | exact⟨hd,Cs h⟩
   | exact h.elim
 | halt x w'=>cases x<;>simp only[Oper.upon]at h<;>simp only[Oper.uponIn]<;>exact h
def dg (o:Oper):Bool :=
 match o.op with
 | .defer _=>true
 | _=>false
def DZ (ops:Array Oper):Prop:=∀(i:Nat) (o:Oper),ops[i]?=some o→dg o=false
theorem FT {o:Oper} (h:dg o=false) (rd:Option Nat) (ρ:Operand→Value):o.semAt rd ρ=execOp ρ o:=by
 cases rd with
 | none=>exact Oper.semAt_none ..
 | some l =>
  refine Oper.semAt_some l ρ o (fun c hc=>?_)
  unfold dg at h
  rw[hc]at h
  cases h
theorem ub {rd:Option Nat} {P:Program} {o:Oper} {a:Act} {w:World} {K:Act→World→Prop} {Q:Exit→Act→World→Prop} (hd:dg o=false) (h:o.uponIn (od rd) 0 P a K Q ((execOp a.eval o).run P w)):o.wpIn (od rd) 0 P a w K Q :=
 ⟨fun f _=>pV rd f,by rw[FT hd];exact h⟩
theorem N2 {rd:Option Nat} {P:Program} {ops:Array Oper} {i:Nat} {o:Oper} {a:Act} {w:World} {K:Act→World→Prop} {Q:Exit→Act→World→Prop} (hnd:DZ ops) (ho:ops[i]?=some o) (h:o.uponIn (od rd) 0 P a K Q ((execOp a.eval o).run P w)):o.wpIn (od rd) 0 P a w K Q :=
 ub (hnd i o ho) h
theorem pu.uponIn {rd:Option Nat} {P:Program} {R:Value→World→Prop} {o:Oper} {a:Act} {next:Act→World→Prop} {Q:Exit→Act→World→Prop} {r:Result Next}
  (h:pu P R r) (hn:∀v w',R v w'→next (a.put o.dst v) w'):o.uponIn (od rd) 0 P a next Q r:=jv (h.upon hn)
section
variable {P:Program} {ops:Array Oper} {sp:tp} {base:Act} {w0:World} {rd:Option Nat}
theorem yD {Q:Exit→Act→World→Prop} (Vj:JZ ops sp base) {m0:Nat} (WD:DX ops m0=true):∀(fuel m:Nat) (C':Array Bool) (a:Act) (w:World),m0≤m→m+fuel=ops.size→C'.size=ops.size →
  (∀i,i<m→C'.getD i false=true)→(∀i,m≤i→C'.getD i false=false) →
  wpOpsIn (od rd) 0 P ops Q (List.range' m fuel) a w→wpAnyIn (od rd) 0 P .any ops Q fuel C' a w:=by
 obtain⟨_,ht⟩:=pU WD
 intro fuel
 induction fuel with
 | zero =>
  intro m C' a w hm X6 hs hall U' h
  refine⟨List.eq_nil_iff_forall_not_mem.2 (fun i hi=>?_),by simpa[wpOpsIn]using h⟩
  obtain⟨h1,o,ho,_⟩:=(dK C' hs i).1 hi
  have:=(RU.1 ho).1
  rw[hall i (by omega)]at h1
  cases h1
 | succ fuel ih =>
  intro m C' a w hm X6 hs hall U' h
  have hmlt:m<ops.size:=by omega
  have ho:ops[m]?=some ops[m]:=R0 hmlt
  have hrm:m∈Region.ready .any ops C':=(dK C' hs m).2 ⟨U' m (RD _),_,ho,fun e he hb=>hall _ (by have:=Vj.top m _ ho e he hb;omega)⟩
  refine⟨fun WC=>(by rw[WC]at hrm;cases hrm),fun i hi=>?_⟩
  obtain⟨UU,o,hio,hr⟩:=(dK C' hs i).1 hi
  have X7:i=m:=by
   have hilt:=(RU.1 hio).1
   have h1:m≤i:=by
    refine SI fun hn=>?_
    rw[hall i (by omega)]at UU
    cases UU
   refine SI fun hn=>?_
   have hb:=ht i (by omega) hilt m (by omega)
   have:=gI (C':=C') (fun k ok hk YZ e he hbe=>by
    have hkm:k<m:=by
     refine SI fun hn=>?_
     rw[U' k (by omega)]at hk
     cases hk
    have:=Vj.top k ok YZ e he hbe
    exact hall _ (by omega)) 12 i m (fun o' Vx=>by rw[hio]at Vx;cases Vx;exact hr) hb
   rw[U' m (RD _)]at this
   cases this
  subst X7
  rw[List.range'_succ,wpOpsIn_cons]at h
  refine wpOpIn_mono (fun a w h=>?_) h
  have Ys:i<C'.size:=by omega
  refine ih (i+1) _ a w (by omega) (by omega) (by simpa using hs) (fun k hk=>?_) (fun k hk=>?_) h
  ·rw[ba _ _ _ Ys]
   split
   ·rfl
   ·exact hall k (by omega)
  ·rw[ba _ _ _ Ys,RE (by omega)]
   exact U' k (by omega)
end
end Go.Proofs.YtckgpflobhpnpaaGreat
namespace Go.Proofs.YtckgpflobhpnpaaGreat
open Go.RowKit
set_option linter.unusedVariables false
set_option linter.unusedSimpArgs false
inductive V:Type 1
 | int (k:IntKind) (n:Int)
 | bool (b:Bool)
 | str (s:ByteArray)
 | sl (sz:Nat) {α:Type} (enc:α→List V) (d:α) (l:List α)
 | mp (es:List (Int×Value))
 | nilf
 | nsl
 | esl
 | sm (ag:Bool) {α:Type} (enc:α→List V) (d:α) (l:List (ByteArray×α))
 | nmp
 | fnv (f:FuncId)
def D0 (ag:Bool) (n:Nat) (v:Value) (f:Nat→Value):Prop:=if ag=true then ∃us:Array Value,v=.agg us∧us.size=n∧∀j,j<n→us[j]?=some (f j)else n=1∧v=f 0
inductive dM (S:Nat→Prop) (w:World):V→Value→Prop
 | int (k:IntKind) (n:Int):dM S w (.int k n) (.int k n)
 | bool (b:Bool):dM S w (.bool b) (.bool b)
 | str (s:ByteArray):dM S w (.str s) (.string s)
 | nil (sz:Nat) {α:Type} (enc:α→List V) (d:α) (p:Option Addr) (c:Nat):c≤maxLen→(p=none→c=0)→dM S w (.sl sz enc d []) (.slice p 0 c)
 | row (sz:Nat) {α:Type} (enc:α→List V) (d:α) (l:List α) (b M' c n:Nat) (us:Nat→Nat→Value):S b→b<w.heap.size→n=l.length→n≤c→c≤maxLen →
   (∀(i:Nat) (x:α),l[i]?=some x→(enc x).length=sz) →
   (∀(i:Nat) (x:α) (j:Nat) (y:V),l[i]?=some x→(enc x)[j]?=some y→w.cell? ⟨b,M'+(i*sz+j),none⟩=some (us i j)) →
   (∀(i:Nat) (x:α) (j:Nat) (y:V),l[i]?=some x→(enc x)[j]?=some y→dM S w y (us i j))→dM S w (.sl sz enc d l) (.slice (some ⟨b,M',none⟩) n c)
 | mp (es:List (Int×Value)) (b clock:Nat) (arr:Array MapEntry):S b→b<w.heap.size→w.heap[b]?=some (.map arr clock)→arr.toList.map (fun e=>(e.key,e.val))=es.map (fun e=>(Value.int .i64 e.1,e.2))→dM S w (.mp es) (.map (some b))
 | nilf:dM S w .nilf .nilFunc
 | nsl:dM S w .nsl (.slice none 0 0)
 | esl (p:Addr) (c:Nat):c≤maxLen→dM S w .esl (.slice (some p) 0 c)
 | smn (ag:Bool) {α:Type} (enc:α→List V) (d:α):dM S w (.sm ag enc d []) (.map none)
 | sm (ag:Bool) {α:Type} (enc:α→List V) (d:α) (l:List (ByteArray×α)) (b clock:Nat) (arr:Array MapEntry) (us:Nat→Nat→Value):S b→b<w.heap.size→w.heap[b]?=some (.map arr clock)→arr.size=l.length →
   (∀(i:Nat) (k:ByteArray) (x:α),l[i]?=some (k,x)→∃e,arr[i]?=some e∧e.key=.string k∧D0 ag (enc x).length e.val (us i)) →
   (∀(i:Nat) (k:ByteArray) (x:α) (j:Nat) (y:V),l[i]?=some (k,x)→(enc x)[j]?=some y→dM S w y (us i j))→dM S w (.sm ag enc d l) (.map (some b))
 | nmp:dM S w .nmp (.map none)
 | fnv (f:FuncId):dM S w (.fnv f) (.func (.func f) #[] #[])
theorem dM.stable {S S':Nat→Prop} {w w':World} {x:V} {u:Value} (h:dM S w x u) (hS:∀b,S b→b<w.heap.size→S' b)
  (hw:∀b,S b→b<w.heap.size→w'.heap[b]?=w.heap[b]?) (Ul:w.heap.size≤w'.heap.size):dM S' w' x u:=by
 induction h with
 | int k n=>exact .int k n
 | bool b=>exact .bool b
 | str s=>exact .str s
 | nil sz enc d p c h1 h2=>exact .nil sz enc d p c h1 h2
 | row sz enc d l b M' c n us h1 h2 h3 h4 h5 h6 h7 _ ih =>
  exact .row sz enc d l b M' c n us (hS b h1 h2) (by omega) h3 h4 h5 h6 (fun i x j y hx hy=>by rw[← h7 i x j y hx hy];exact Tw (hw b h1 h2)) ih
 | nilf=>exact .nilf
 | nsl=>exact .nsl
 | esl p c h=>exact .esl p c h
 | mp es b clock arr h1 h2 h3 h4=>exact .mp es b clock arr (hS b h1 h2) (by omega) (by rw[hw b h1 h2];exact h3) h4
 | smn ag enc d=>exact .smn ag enc d
 | sm ag enc d l b clock arr us h1 h2 h3 h4 h5 _ ih=>exact .sm ag enc d l b clock arr us (hS b h1 h2) (by omega) (by rw[hw b h1 h2];exact h3) h4 h5 ih
 | nmp=>exact .nmp
 | fnv f=>exact .fnv f
theorem dM.one {S:Nat→Prop} {w:World} {x:V} {u:Value} (h:dM S w x u):u.oneCell'=true:=by
 cases h<;>rfl
inductive D:Type 1
 | v (x:V)
 | nils
 | own (id:Nat)
 | ptr (id i sz M':Nat)
 | iptr (cs:List V) (M':Nat)
 | agg (cs:List D)
 | tup (cs:List D)
 | fn (f:Fn) (first cap:List D)
 | yld (id:Nat)
 | capd (x:V)
 | gr (g r:Nat)
 | junk
mutual
def D.free (id:Nat):D→Bool
 | .own i=>!(Nat.beq i id)
 | .ptr i _ _ _=>!(Nat.beq i id)
 | .agg cs=>D.freeL id cs
 | .tup cs=>D.freeL id cs
 | .fn _ a b=>D.freeL id a&&D.freeL id b
 | .yld i=>!(Nat.beq i id)
 | .gr i _=>!(Nat.beq i id)
 | _=>true
def D.freeL (id:Nat):List D→Bool
 | []=>true
 | c::cs=>D.free id c&&D.freeL id cs
end
def aI:Value→Option Nat
 | .pointer (some a)=>some a.block
 | .slice (some a) _ _=>some a.block
 | .map (some b)=>some b
 | _=>none
def bL (u:Value) (b:Nat):Prop:=aI u=some b∨∃us:Array Value,u=.tuple us∧∃(k:Nat) (x:Value),us[k]?=some x∧aI x=some b
theorem bL.one {u:Value} {b k:Nat} (hk:bL u k) (h:aI u=some b):some b=some k:=by
 rcases hk with hk | ⟨us,rfl,_⟩
 ·rw[← h,← hk]
 ·cases h
theorem bL.bl {u:Value} {b:Nat} (hk:bL u b) (h:u.oneCell'=true):aI u=some b:=by
 rcases hk with hk | ⟨us,rfl,_⟩
 ·exact hk
 ·cases h
theorem bL.of {u:Value} {b:Nat} (h:aI u=some b):bL u b:=.inl h
inductive an (S:Nat→Prop) (μ:Nat→Value) (w:World):D→Value→Prop
 | v (x:V) (u:Value):dM S w x u→an S μ w (.v x) u
 | nils:an S μ w .nils (.slice none 0 0)
 | own (id:Nat):an S μ w (.own id) (μ id)
 | ptr (id i sz M' b:Nat):aI (μ id)=some b→an S μ w (.ptr id i sz M') (.pointer (some ⟨b,i*sz+M',none⟩))
 | iptr (cs:List V) (M' b o:Nat) (us:Nat→Value):S b→b<w.heap.size→(∀(j:Nat) (y:V),cs[j]?=some y→w.cell? ⟨b,o+j,none⟩=some (us j)) →
   (∀(j:Nat) (y:V),cs[j]?=some y→dM S w y (us j))→an S μ w (.iptr cs M') (.pointer (some ⟨b,o+M',none⟩))
 | agg (cs:List D) (us:Array Value):us.size=cs.length→(∀(j:Nat) (y:D) (u:Value),cs[j]?=some y→us[j]?=some u→an S μ w y u)→an S μ w (.agg cs) (.agg us)
 | tup (cs:List D) (us:Array Value):us.size=cs.length→(∀(j:Nat) (y:D) (u:Value),cs[j]?=some y→us[j]?=some u→an S μ w y u)→an S μ w (.tup cs) (.tuple us)
 | fn (f:Fn) (first cap:List D) (us vs:Array Value):us.size=first.length→(∀(j:Nat) (y:D) (u:Value),first[j]?=some y→us[j]?=some u→an S μ w y u) →
   vs.size=cap.length→(∀(j:Nat) (y:D) (u:Value),cap[j]?=some y→vs[j]?=some u→an S μ w y u)→an S μ w (.fn f first cap) (.func f us vs)
 | yld (id l:Nat):aI (μ id)=some l→an S μ w (.yld id) (.func (.yield l) #[] #[])
 | capd (x:V) (p:Option Addr) (n:Nat):dM S w x (.slice p n n)→an S μ w (.capd x) (.slice p n n)
 | gr (g r:Nat) (us:Array Value) (u:Value):μ g=.tuple us→us[r]?=some u→u.oneCell'=true→an S μ w (.gr g r) u
 | junk (u:Value):an S μ w .junk u
theorem D.freeL_get {id:Nat}:∀{cs:List D} {j:Nat} {y:D},D.freeL id cs=true→cs[j]?=some y→D.free id y=true
 | [],_,_,_,h=>by simp at h
 | c::cs,0,y,h,hy=>by
  simp only[D.freeL,RA]at h
  simp at hy
  subst hy
  exact h.1
 | c::cs,j+1,y,h,hy=>by
  simp only[D.freeL,RA]at h
  exact D.freeL_get h.2 (by simpa using hy)
theorem an.stable {S S':Nat→Prop} {μ μ':Nat→Value} {w w':World} {d:D} {u:Value} (h:an S μ w d u) (hS:∀b,S b→b<w.heap.size→S' b)
  (hw:∀b,S b→b<w.heap.size→w'.heap[b]?=w.heap[b]?) (Ul:w.heap.size≤w'.heap.size) (hμ:∀id,d.free id=false→μ' id=μ id):an S' μ' w' d u:=by
 induction h with
 | v x u h=>exact .v x u (h.stable hS hw Ul)
 | nils=>exact .nils
 | own id=>rw[← hμ id (by simp[D.free])];exact .own id
 | ptr id i sz M' b h=>exact .ptr id i sz M' b (by rw[hμ id (by simp[D.free])];exact h)
 | yld id l h=>exact .yld id l (by rw[hμ id (by simp[D.free])];exact h)
 | iptr cs M' b o us h1 h2 h3 h4=>exact .iptr cs M' b o us (hS b h1 h2) (by omega) (fun j y hy=>by rw[← h3 j y hy];exact Tw (hw b h1 h2)) (fun j y hy=>(h4 j y hy).stable hS hw Ul)
 | agg cs us h1 _ ih =>
  refine .agg cs us h1 (fun j y u hy hu=>ih j y u hy hu (fun id hf=>hμ id ?_))
  simp only[D.free]
  cases hc:D.freeL id cs
  ·rfl
  ·rw[D.freeL_get hc hy]at hf;cases hf
 | tup cs us h1 _ ih =>
  refine .tup cs us h1 (fun j y u hy hu=>ih j y u hy hu (fun id hf=>hμ id ?_))
  simp only[D.free]
  cases hc:D.freeL id cs
  ·rfl
  ·rw[D.freeL_get hc hy]at hf;cases hf
 | fn f a b us vs h1 _ h2 _ ih1 ih2 =>
  refine .fn f a b us vs h1 (fun j y u hy hu=>ih1 j y u hy hu (fun id hf=>hμ id ?_)) h2 (fun j y u hy hu=>ih2 j y u hy hu (fun id hf=>hμ id ?_))
  ·simp only[D.free]
   cases hc:D.freeL id a
   ·rfl
   ·rw[D.freeL_get hc hy]at hf;cases hf
  ·simp only[D.free]
   cases hc:D.freeL id b
   ·simp
   ·rw[D.freeL_get hc hy]at hf;cases hf
 | capd x p n h=>exact .capd x p n (h.stable hS hw Ul)
 | gr g r us u h h1 h2=>exact .gr g r us u (by rw[hμ g (by simp[D.free])];exact h) h1 h2
 | junk u=>exact .junk u
def D.one:D→Bool
 | .agg _=>false
 | .tup _=>false
 | .junk=>false
 | .own _=>true
 | _=>true
structure qC:Type 1 where
 E:TypeId
 sz:Nat
 α:Type
 enc:α→List V
 d:α
 l:List α
inductive Ce:Type 1
 | v (x:V)
 | me (r:Nat)
inductive ap:Type 1
 | dead
 | var (T:TypeId) (cs:List D)
 | arr (E:TypeId) (sz:Nat) {α:Type} (enc:α→List V) (d:α) (l:List α)
 | loop (l:Nat) (tm:Array Value) (nt:Nat) (env:List (Nat×D)) (ps:List Nat) (assign body:Code) (state:LoopState) (pending:Option Code)
 | frame (tm:Array Value) (env:List (Nat×D))
 | ro (E:TypeId) (sz:Nat) {α:Type} (enc:α→List V) (d:α) (l:List α)
 | mpb (t:TypeId) (ag:Bool) {α:Type} (enc:α→List V) (d:α) (l:List (ByteArray×α))
 | arrD (E:TypeId) (sz n:Nat) (gs:List Nat) (cell:Nat→Nat→D)
 | grp (n:Nat) (f:Nat→qC)
 | nest (E:TypeId) (sz n:Nat) (ce:Nat→Nat→Ce) (m:Nat) (f:Nat→qC)
def b9 (id:Nat):List (Nat×D)→Bool
 | []=>true
 | (_,d)::r=>D.free id d&&b9 id r
theorem ct {id:Nat}:∀{env:List (Nat×D)} {t:Nat} {d:D},b9 id env=true→(t,d)∈env→D.free id d=true
 | (s,e)::r,t,d,h,hm=>by
  simp only[b9,RA]at h
  rcases Sq.1 hm with hm | hm
  ·cases hm;exact h.1
  ·exact ct h.2 hm
def pW (ag:Bool) (cs:List V):D:=if ag then .agg (cs.map D.v)else (cs.map D.v).getD 0 .junk
theorem FU (ag:Bool) (cs:List V) (id:Nat):D.free id (pW ag cs)=true:=by
 have hL:∀cs:List V,D.freeL id (cs.map D.v)=true:=by
  intro cs
  induction cs with
  | nil=>rfl
  | cons c r ih=>rw[SJ,D.freeL,ih];rfl
 unfold pW
 split
 ·rw[D.free];exact hL cs
 ·cases cs<;>rfl
def D1 (S:Nat→Prop) (μ:Nat→Value) (w:World) (ag:Bool) {α:Type} (enc:α→List V) (l:List (ByteArray×α)) (arr:Array MapEntry):Prop :=
 arr.size=l.length∧∀(i:Nat) (k:ByteArray) (x:α),l[i]?=some (k,x)→∃e,arr[i]?=some e∧e.key=.string k∧(ag=false→(enc x).length=1)∧an S μ w (pW ag (enc x)) e.val
def sk (S:Nat→Prop) (w:World) (u:Value) (x:qC):Prop:=(∀(i:Nat) (y:x.α),x.l[i]?=some y→(x.enc y).length=x.sz)∧∃xs,w.ownsRow 0 x.E x.sz u x.l.length xs∧∀(i:Nat) (z:x.α) (j:Nat) (y:V),x.l[i]?=some z→(x.enc z)[j]?=some y→∃v,xs[i*x.sz+j]?=some v∧dM S w y v
def N3 (S:Nat→Prop) (w:World) (us:Array Value):Ce→Value→Prop
 | .v x,z=>dM S w x z
 | .me r,z=>us[r+1]?=some z
def aH (S:Nat→Prop) (μ:Nat→Value) (w:World) (u:Value):ap→Prop
 | .dead=>True
 | .var T cs=>∃b vs,u=.pointer (some ⟨b,0,none⟩)∧w.heap[b]?=some (.cells vs T (0,0))∧vs.size=cs.length∧∀(j:Nat) (y:D) (x:Value),cs[j]?=some y→vs[j]?=some x→an S μ w y x
 | .arr (α:=α) E sz enc _ l=>(∀(i:Nat) (x:α),l[i]?=some x→(enc x).length=sz)∧∃xs,w.ownsRow 0 E sz u l.length xs∧∀(i:Nat) (x:α) (j:Nat) (y:V),l[i]?=some x→(enc x)[j]?=some y→∃z,xs[i*sz+j]?=some z∧dM S w y z
 | .loop l tm nt env ps assign body state pending=>∃(r:Loop),u=.pointer (some ⟨l,0,none⟩)∧w.heap[l]?=some (.loop r)∧r.state=state∧r.pending=pending∧r.params=ps.toArray∧r.assign=assign∧r.body=body∧r.tmps=tm∧tm.size=nt ∧
   ∀(t:Nat) (d:D),(t,d)∈env→t<nt∧an S μ w d (tm.getD t undef)
 | .frame tm env=>u=.bool true∧∀(t:Nat) (d:D),(t,d)∈env→t<tm.size∧an S μ w d (tm.getD t undef)
 | .ro (α:=α) E sz enc _ l=>(∀(i:Nat) (x:α),l[i]?=some x→(enc x).length=sz)∧∃xs,w.ownsRow 0 E sz u l.length xs∧∀(i:Nat) (x:α) (j:Nat) (y:V),l[i]?=some x→(enc x)[j]?=some y→∃z,xs[i*sz+j]?=some z∧dM S w y z
 | .mpb t ag enc _ l=>∃b arr clock,u=.map (some b)∧w.heap[b]?=some (.map arr clock)∧D1 S μ w ag enc l arr
 | .arrD E sz n gs cell=>(∀(i j id:Nat),i<n→j<sz→gs.all (fun g=>!(Nat.beq g id))=true→(cell i j).free id=true)∧∃xs,w.ownsRow 0 E sz u n xs∧∀(i j:Nat),i<n→j<sz→∃z,xs[i*sz+j]?=some z∧z.oneCell'=true∧an S μ w (cell i j) z
 | .grp n f=>∃us:Array Value,u=.tuple us∧us.size=n∧(∀(r:Nat) (v:Value),us[r]?=some v→v.oneCell'=true∧sk S w v (f r))∧∀(r r':Nat) (v v':Value) (b:Nat),us[r]?=some v→us[r']?=some v'→aI v=some b→aI v'=some b→r=r'
 | .nest E sz n ce m f=>∃us:Array Value,u=.tuple us∧us.size=m+1∧(∃(v0:Value) (xs:List Value),us[0]?=some v0∧v0.oneCell'=true∧w.ownsRow 0 E sz v0 n xs∧∀(i j:Nat),i<n→j<sz→∃z,xs[i*sz+j]?=some z∧z.oneCell'=true∧N3 S w us (ce i j) z) ∧
   (∀(r:Nat) (v:Value),us[r+1]?=some v→v.oneCell'=true∧sk S w v (f r))∧∀(r r':Nat) (v v':Value) (b:Nat),us[r]?=some v→us[r']?=some v'→aI v=some b→aI v'=some b→r=r'
def ap.live:ap→Bool
 | .dead=>false
 | .ro _ _ _ _ _=>false
 | _=>true
def ap.isRo:ap→Bool
 | .ro _ _ _ _ _=>true
 | _=>false
theorem ap.three (A:ap):A=.dead∨A.live=true∨A.isRo=true:=by
 cases A<;>first | exact .inl rfl | exact .inr (.inl rfl) | exact .inr (.inr rfl)
def ap.isArr:ap→Bool
 | .arr _ _ _ _ _=>true
 | _=>false
def ap.isOwn:ap→Bool
 | .arr _ _ _ _ _=>true
 | .nest _ _ _ _ _ _=>true
 | _=>false
theorem ap.isOwn_arr {B:ap} (h:B.isArr=true):B.isOwn=true:=by cases B<;>first | rfl | cases h
theorem FV {B:ap} (h:B.live=true):B.isRo=false:=by cases B<;>first | rfl | cases h
theorem mD {B:ap} (h:B.isArr=true):B.isRo=false:=by cases B<;>first | rfl | cases h
def ap.free (id:Nat):ap→Bool
 | .var _ cs=>D.freeL id cs
 | .loop _ _ _ env _ _ _ _ _=>b9 id env
 | .frame _ env=>b9 id env
 | .arrD _ _ _ gs _=>gs.all (fun g=>!(Nat.beq g id))
 | _=>true
theorem sk.stable {S S':Nat→Prop} {w w':World} {u:Value} {x:qC} (h:sk S w u x) (hS:∀b,S b→b<w.heap.size→S' b)
  (hw:∀b,S b→b<w.heap.size→w'.heap[b]?=w.heap[b]?) (Ul:w.heap.size≤w'.heap.size) (hb:∀b,aI u=some b→w'.heap[b]?=w.heap[b]?):sk S' w' u x:=by
 obtain⟨h0,xs,⟨h1,h2⟩,h3⟩:=h
 refine⟨h0,xs,⟨h1,?_⟩,fun i x j y hx hy=>?_⟩
 ·rcases h2 with h2 | ⟨g,cap,UH,rfl,hg,hh,r⟩
  ·exact .inl h2
  ·exact .inr ⟨g,cap,UH,rfl,hg,by rw[hb g rfl];exact hh,r⟩
 ·obtain⟨z,hz,hr⟩:=h3 i x j y hx hy
  exact⟨z,hz,hr.stable hS hw Ul⟩
theorem vd {w w':World} {E sz n:Nat} {u:Value} {xs:List Value} (h:w.ownsRow 0 E sz u n xs) (hb:∀b,aI u=some b→w'.heap[b]?=w.heap[b]?):w'.ownsRow 0 E sz u n xs:=by
 obtain⟨h1,h2⟩:=h
 refine⟨h1,?_⟩
 rcases h2 with h2 | ⟨g,cap,UH,rfl,hg,hh,r⟩
 ·exact .inl h2
 ·exact .inr ⟨g,cap,UH,rfl,hg,by rw[hb g rfl];exact hh,r⟩
theorem aH.stable {S S':Nat→Prop} {μ μ':Nat→Value} {w w':World} {u:Value} {B:ap} (h:aH S μ w u B) (hS:∀b,S b→b<w.heap.size→S' b)
  (hw:∀b,S b→b<w.heap.size→w'.heap[b]?=w.heap[b]?) (Ul:w.heap.size≤w'.heap.size) (hμ:∀id,B.free id=false→μ' id=μ id)
  (UN:∀b,bL u b→w'.heap[b]?=w.heap[b]?):aH S' μ' w' u B:=by
 have hb:∀b,aI u=some b→w'.heap[b]?=w.heap[b]?:=fun b h=>UN b (.of h)
 cases B with
 | dead=>trivial
 | var T cs =>
  obtain⟨b,vs,rfl,h1,h2,h3⟩:=h
  refine⟨b,vs,rfl,by rw[hb b rfl];exact h1,h2,fun j y x hy hx=>(h3 j y x hy hx).stable hS hw Ul (fun id hf=>hμ id ?_)⟩
  simp only[ap.free]
  cases hc:D.freeL id cs
  ·rfl
  ·rw[D.freeL_get hc hy]at hf;cases hf
 | arr E sz enc d l =>
  obtain⟨h0,xs,⟨h1,h2⟩,h3⟩:=h
  refine⟨h0,xs,⟨h1,?_⟩,fun i x j y hx hy=>?_⟩
  ·rcases h2 with h2 | ⟨g,cap,UH,rfl,hg,hh,r⟩
   ·exact .inl h2
   ·exact .inr ⟨g,cap,UH,rfl,hg,by rw[hb g rfl];exact hh,r⟩
  ·obtain⟨z,hz,hr⟩:=h3 i x j y hx hy
   exact⟨z,hz,hr.stable hS hw Ul⟩
 | loop l tm nt env ps assign body state pending =>
  obtain⟨r,rfl,h1,h2,h3,h4,h5,h6,h7,h7',h8⟩:=h
  refine⟨r,rfl,by rw[hb l rfl];exact h1,h2,h3,h4,h5,h6,h7,h7',fun t d hm=>?_⟩
  obtain⟨q1,q2⟩:=h8 t d hm
  refine⟨q1,q2.stable hS hw Ul (fun id hf=>hμ id ?_)⟩
  simp only[ap.free]
  cases hc:b9 id env
  ·rfl
  ·rw[ct hc hm]at hf;cases hf
 | frame tm env =>
  obtain⟨rfl,h8⟩:=h
  refine⟨rfl,fun t d hm=>?_⟩
  obtain⟨q1,q2⟩:=h8 t d hm
  refine⟨q1,q2.stable hS hw Ul (fun id hf=>hμ id ?_)⟩
  simp only[ap.free]
  cases hc:b9 id env
  ·rfl
  ·rw[ct hc hm]at hf;cases hf
 | ro E sz enc d l =>
  obtain⟨h0,xs,⟨h1,h2⟩,h3⟩:=h
  refine⟨h0,xs,⟨h1,?_⟩,fun i x j y hx hy=>?_⟩
  ·rcases h2 with h2 | ⟨g,cap,UH,rfl,hg,hh,r⟩
   ·exact .inl h2
   ·exact .inr ⟨g,cap,UH,rfl,hg,by rw[hb g rfl];exact hh,r⟩
  ·obtain⟨z,hz,hr⟩:=h3 i x j y hx hy
   exact⟨z,hz,hr.stable hS hw Ul⟩
 | mpb t ag enc d l =>
  obtain⟨b,arr,clock,rfl,h1,h2,h3⟩:=h
  refine⟨b,arr,clock,rfl,by rw[hb b rfl];exact h1,h2,fun i k x hx=>?_⟩
  obtain⟨e,q1,q2,q4,q3⟩:=h3 i k x hx
  exact⟨e,q1,q2,q4,q3.stable hS hw Ul (fun id hf=>by rw[FU]at hf;cases hf)⟩
 | arrD E sz n gs cell =>
  obtain⟨h0,xs,⟨h1,h2⟩,h3⟩:=h
  refine⟨h0,xs,⟨h1,?_⟩,fun i j hi hj=>?_⟩
  ·rcases h2 with h2 | ⟨g,cap,UH,rfl,hg,hh,r⟩
   ·exact .inl h2
   ·exact .inr ⟨g,cap,UH,rfl,hg,by rw[hb g rfl];exact hh,r⟩
  ·obtain⟨z,hz,ho,hr⟩:=h3 i j hi hj
   refine⟨z,hz,ho,hr.stable hS hw Ul (fun id hf=>hμ id ?_)⟩
   simp only[ap.free]
   cases hc:gs.all (fun g=>!(Nat.beq g id))
   ·rfl
   ·rw[h0 i j id hi hj hc]at hf;cases hf
 | grp n f =>
  obtain⟨us,rfl,h1,h2,h3⟩:=h
  exact⟨us,rfl,h1,fun r v hv=>⟨(h2 r v hv).1,(h2 r v hv).2.stable hS hw Ul (fun b Y0=>UN b (.inr ⟨us,rfl,r,v,hv,Y0⟩))⟩,h3⟩
 | nest E sz n ce m f =>
  obtain⟨us,rfl,h1,⟨v0,xs,g1,g2,g3,g4⟩,h2,h3⟩:=h
  refine⟨us,rfl,h1,⟨v0,xs,g1,g2,vd g3 (fun b Y0=>UN b (.inr ⟨us,rfl,0,v0,g1,Y0⟩)),fun i j hi hj=>?_⟩,fun r v hv=>⟨(h2 r v hv).1,(h2 r v hv).2.stable hS hw Ul (fun b Y0=>UN b (.inr ⟨us,rfl,r+1,v,hv,Y0⟩))⟩,h3⟩
  obtain⟨z,q1,q2,q3⟩:=g4 i j hi hj
  refine⟨z,q1,q2,?_⟩
  cases hc:ce i j with
  | v x=>rw[hc]at q3;exact q3.stable hS hw Ul
  | me r=>rw[hc]at q3;exact q3
theorem aH.ro_arr {S:Nat→Prop} {μ:Nat→Value} {w:World} {u:Value} {E sz:Nat} {α:Type} {enc:α→List V} {d:α} {l:List α} (h:aH S μ w u (.ro E sz enc d l)):aH S μ w u (.arr E sz enc d l):=h
theorem aH.lt {S:Nat→Prop} {μ:Nat→Value} {w:World} {u:Value} {B:ap} (h:aH S μ w u B) (hl:B.live=true):∀b,bL u b→b<w.heap.size:=by
 intro b hb
 cases B with
 | dead=>cases hl
 | var T cs =>
  obtain⟨b',vs,rfl,h1,_⟩:=h
  simp[bL,aI]at hb
  subst hb
  exact(RU.1 h1).1
 | arr E sz enc d l =>
  obtain⟨_,xs,⟨h1,h2⟩,_⟩:=h
  rcases h2 with ⟨rfl,_⟩ | ⟨g,cap,UH,rfl,hg,hh,r⟩
  ·simp[bL,aI]at hb
  ·simp[bL,aI]at hb
   subst hb
   exact(RU.1 hh).1
 | loop l tm nt env ps assign body state pending =>
  obtain⟨r,rfl,h1,_⟩:=h
  simp[bL,aI]at hb
  subst hb
  exact(RU.1 h1).1
 | frame tm env =>
  obtain⟨rfl,_⟩:=h
  simp[bL,aI]at hb
 | ro E sz enc d l=>cases hl
 | mpb t ag enc d l =>
  obtain⟨b',arr,clock,rfl,h1,_⟩:=h
  simp[bL,aI]at hb
  subst hb
  exact(RU.1 h1).1
 | arrD E sz n gs cell =>
  obtain⟨_,xs,⟨h1,h2⟩,_⟩:=h
  rcases h2 with ⟨rfl,_⟩ | ⟨g,cap,UH,rfl,hg,hh,r⟩
  ·simp[bL,aI]at hb
  ·simp[bL,aI]at hb
   subst hb
   exact(RU.1 hh).1
 | grp n f =>
  obtain⟨us,rfl,h1,h2,h3⟩:=h
  rcases hb with hb | ⟨VH,he,k,x,hx,hb⟩
  ·simp[aI]at hb
  ·cases he
   obtain⟨_,_,xs,⟨_,h2⟩,_⟩:=h2 k x hx
   rcases h2 with ⟨rfl,_⟩ | ⟨g,cap,UH,rfl,hg,hh,r⟩
   ·simp[aI]at hb
   ·simp[aI]at hb
    subst hb
    exact(RU.1 hh).1
 | nest E sz n ce m f =>
  obtain⟨us,rfl,h1,⟨v0,xs,g1,g2,g3,g4⟩,h2,h3⟩:=h
  rcases hb with hb | ⟨VH,he,k,x,hx,hb⟩
  ·simp[aI]at hb
  ·cases he
   have key:∃E' UR n' xs',w.ownsRow 0 E' UR x n' xs':=by
    cases k with
    | zero=>rw[g1]at hx;cases hx;exact⟨_,_,_,_,g3⟩
    | succ k=>obtain⟨_,_,xs,h,_⟩:=h2 k x hx;exact⟨_,_,_,_,h⟩
   obtain⟨E',UR,n',xs',_,h2⟩:=key
   rcases h2 with ⟨rfl,_⟩ | ⟨g,cap,UH,rfl,hg,hh,r⟩
   ·simp[aI]at hb
   ·simp[aI]at hb
    subst hb
    exact(RU.1 hh).1
theorem aH.ltR {S:Nat→Prop} {μ:Nat→Value} {w:World} {u:Value} {B:ap} (h:aH S μ w u B) (hr:B.isRo=true):∀b,bL u b→b<w.heap.size:=by
 cases B<;>first | (cases hr;done) | skip
 exact h.ro_arr.lt rfl
structure bp (S:Nat→Prop) (μ:Nat→Value) (w:World) (H:List ap):Prop where
 box:∀(id:Nat) (B:ap),H[id]?=some B→aH S μ w (μ id) B
 apart:∀(i j:Nat) (A B:ap) (b:Nat),H[i]?=some A→H[j]?=some B→A.live=true→B.live=true→bL (μ i) b→bL (μ j) b→i=j
 notS:∀(i:Nat) (A:ap) (b:Nat),H[i]?=some A→A.live=true→bL (μ i) b→¬S b
def gK:List (Nat×List V):=Q2.map fun p=>(p.1,p.2.map fun o=>o.elim .nilf V.fnv)
def gf (S:Nat→Prop) (w:World):Prop:=∀(g:Nat) (cs:List V),(g,cs)∈gK→S g∧g<w.heap.size∧∀(j:Nat) (y:V),cs[j]?=some y→∃u,w.cell? ⟨g,j,none⟩=some u∧dM S w y u
theorem gf.stable {S S':Nat→Prop} {w w':World} (h:gf S w) (hS:∀b,S b→b<w.heap.size→S' b)
  (hw:∀b,S b→b<w.heap.size→w'.heap[b]?=w.heap[b]?) (Ul:w.heap.size≤w'.heap.size):gf S' w':=fun g cs hm=>by
 obtain⟨h1,h2,h3⟩:=h g cs hm
 refine⟨hS g h1 h2,by omega,fun j y hy=>?_⟩
 obtain⟨u,hu,hr⟩:=h3 j y hy
 exact⟨u,by rw[← hu];exact Tw (hw g h1 h2),hr.stable hS hw Ul⟩
theorem FW {S:Nat→Prop} {w:World} (h:Q2=[]):gf S w:=fun g cs hm=>by
 unfold gK at hm;rw[h]at hm;cases hm
structure kU where
 P:Program
 W:World
 S0:Nat→Prop
 nt:Nat
 susp:List Nat
 rd:Option Nat
 g:gf S0 W
structure St:Type 1 where
 env:List (Nat×D)
 heap:List ap
structure bc (C:kU) (S:Nat→Prop) (μ:Nat→Value) (st:St) (a:Act) (w:World):Prop where
 os:w.os=C.W.os
 tape:w.tape=C.W.tape
 output:w.output=C.W.output
 size:C.W.heap.size≤w.heap.size
 old:∀k,k<C.W.heap.size→w.heap[k]?=C.W.heap[k]?
 mono:∀b,C.S0 b→S b
 new:∀b,S b→C.S0 b∨C.W.heap.size≤b
 slt:∀b,S b→b<w.heap.size
 env:∀(t:Nat) (d:D),(t,d)∈st.env→t<C.nt∧an S μ w d (a.tmps.getD t undef)
 heap:bp S μ w st.heap
 may:∀(i:Nat) (A:ap) (b:Nat),st.heap[i]?=some A→A.live=true→bL (μ i) b→C.W.heap.size≤b
 defers:∃mk:List Nat,a.defers=mk.map (fun b=>{ target:=.collected b,args:=#[] })∧(mk++C.susp).Nodup∧∀b∈mk++C.susp,w.heap[b]?=some (.deferred (some []))∧C.W.heap.size≤b∧¬S b∧∀(i:Nat) (A:ap),st.heap[i]?=some A→A.live=true→¬bL (μ i) b
 tsize:a.tmps.size=C.nt
 ro:∀(i:Nat) (A:ap) (b:Nat),st.heap[i]?=some A→A.isRo=true→bL (μ i) b→b<C.W.heap.size
theorem bc.glob {C:kU} {S:Nat→Prop} {μ:Nat→Value} {st:St} {a:Act} {w:World} (h:bc C S μ st a w):gf S w :=
 C.g.stable (fun b hb _=>h.mono b hb) (fun b _ hb=>h.old b hb) h.size
end Go.Proofs.YtckgpflobhpnpaaGreat
namespace Go.Proofs.YtckgpflobhpnpaaGreat
open Go.RowKit
set_option linter.unusedVariables false
set_option linter.unusedSimpArgs false
def D.ofVal1:Value→D
 | .int k n=>.v (.int k n)
 | .bool b=>.v (.bool b)
 | .string s=>.v (.str s)
 | .slice none 0 0=>.nils
 | .nilFunc=>.v .nilf
 | .map none=>.v .nmp
 | .func f a b=>if a.isEmpty&&b.isEmpty then .fn f [] []else .junk
 | _=>.junk
def D.ofVal:Value→D
 | .agg us=>.agg (us.toList.map D.ofVal1)
 | u=>D.ofVal1 u
theorem dF {α:Type _} (l:List α) (d:α) {i:Nat} (h:i<l.length):l.getD i d=l[i]:=by simp[List.getD,h]
theorem an.ofVal1 (S:Nat→Prop) (μ:Nat→Value) (w:World) (u:Value):an S μ w (D.ofVal1 u) u:=by
 unfold D.ofVal1
 split
 ·exact .v _ _ (.int _ _)
 ·exact .v _ _ (.bool _)
 ·exact .v _ _ (.str _)
 ·exact .nils
 ·exact .v _ _ .nilf
 ·exact .v _ _ .nmp
 ·split
  ·rename_i f a b h
   simp only[RA,Array.isEmpty_iff]at h
   obtain⟨rfl,rfl⟩:=h
   exact .fn f [] [] #[] #[] rfl (fun j y u h=>by simp at h) rfl (fun j y u h=>by simp at h)
  ·exact .junk _
 ·exact .junk _
theorem an.ofVal (S:Nat→Prop) (μ:Nat→Value) (w:World) (u:Value):an S μ w (D.ofVal u) u:=by
 unfold D.ofVal
 split
 ·rename_i us
  refine .agg _ us (by simp) (fun j y u hy hu=>?_)
  simp only[R3,Si,hu,Sr,RM]at hy
  subst hy
  exact an.ofVal1 S μ w u
 ·exact an.ofVal1 S μ w _
abbrev R1:=D×Prop
def aN:R1:=(.junk,False)
def aE (P:Program) (t:TypeId):Nat:=((P.info? t).map (·.size)).getD 0
def xk (P:Program) (t:TypeId):Bool:=match P.underlying t with | some (.struct _)=>true | some (.array _ _)=>true | _=>false
def cN (P:Program) (t:TypeId):Bool:=(P.info? t).isSome&&(P.underlying t).isSome
def du (P:Program) (t:TypeId) (cs:List D) (M':Nat):R1 :=
 if cN P t&&Nat.ble (M'+aE P t) cs.length&&(xk P t||Nat.beq (aE P t) 1)then
  (if xk P t then .agg ((cs.drop M').take (aE P t))else cs.getD M' .junk,True)
 else aN
def D2 (P:Program) (t:TypeId) (H:List ap):D→R1
 | .ptr id i sz M'=>match H[id]? with
  | some (.var _ cs)=>if Nat.beq i 0 then du P t cs M' else aN
  | some (.arr _ UR enc d l)=>if Nat.beq sz UR then
    (match du P t ((enc (l.getD i d)).map D.v) M' with | (x,p)=>(x,i<l.length∧p))else aN
  | some (.ro _ UR enc d l)=>if Nat.beq sz UR then
    (match du P t ((enc (l.getD i d)).map D.v) M' with | (x,p)=>(x,i<l.length∧p))else aN
  | some (.arrD _ UR n _ cell)=>if Nat.beq sz UR then
    (match du P t ((List.range sz).map (cell i)) M' with | (x,p)=>(x,i<n∧p))else aN
  | _=>aN
 | .iptr cs M'=>du P t (cs.map D.v) M'
 | _=>aN
section
variable {P:Program} {S:Nat→Prop} {μ:Nat→Value} {w:World}
theorem d9 {t:TypeId} (h:cN P t=true) (w:World):(sizeOf t).run P w=.ok (aE P t) w:=by
 unfold cN at h
 cases hi:P.info? t with
 | none=>simp[hi]at h
 | some i=>simp[sizeOf,typeInfo,hi,aE]
theorem xl {t:TypeId} (h:cN P t=true) (w:World):(isAgg t).run P w=.ok (xk P t) w:=by
 unfold cN at h
 cases hu:P.underlying t with
 | none=>simp[hu]at h
 | some d =>
  unfold isAgg
  simp only[RG,Sl hu,RF]
  unfold xk
  rw[hu]
  cases d<;>rfl
def kV (S:Nat→Prop) (μ:Nat→Value) (w:World) (b o:Nat) (cs:List D):Prop :=
 ∀(j:Nat) (y:D),cs[j]?=some y→∃u,w.cell? ⟨b,o+j,none⟩=some u∧an S μ w y u
theorem dP (b o i:Nat):(⟨b,o,none⟩:Addr).add i=⟨b,o+i,none⟩:=by unfold Addr.add;split<;>simp_all
theorem jw {b o:Nat} {cs:List D} (h:kV S μ w b o cs):∀(n i:Nat) (UV:Array Value),i+n≤cs.length →
  ∃us:Array Value,(loadCellsFrom ⟨b,o,none⟩ i n UV).run P w=.ok (UV++us) w∧us.size=n∧∀(j:Nat) (y:D) (u:Value),cs[i+j]?=some y→us[j]?=some u→an S μ w y u
 | 0,i,UV,_=>⟨#[],by simp[loadCellsFrom],rfl,fun j y u _ hu=>by simp at hu⟩
 | n+1,i,UV,hl=>by
  have hi:i<cs.length:=by omega
  obtain⟨u,hu,hr⟩:=h i cs[i] (RB hi)
  obtain⟨us,h1,h2,h3⟩:=jw h n (i+1) (UV.push u) (by omega)
  refine⟨#[u]++us,?_,by simp[h2];omega,fun j y x hy hx=>?_⟩
  ·have hld:(load ⟨b,o+i,none⟩).run P w=.ok u w:=by simp[load,Sem.run,hu]
   rw[loadCellsFrom,dP,RG,hld,RF,h1]
   congr 1
   rw[Array.push_eq_append,Array.append_assoc]
  ·cases j with
   | zero =>
    have VX:x=u:=by
     rw[Array.getElem?_append_left (by simp)]at hx
     simpa using hx.symm
    rw[VX]
    rw[SY,RB hi]at hy
    cases hy
    exact hr
   | succ j =>
    refine h3 j y x (by rw[show i+1+j=i+(j+1)from by omega];exact hy) ?_
    rw[Array.getElem?_append_right (by simp)]at hx
    simpa using hx
theorem gQ {t:TypeId} {cs:List D} {M' b o:Nat} {d:D} {p:Prop} (hp:du P t cs M'=(d,p)) (G':p) (h:kV S μ w b o cs) :
  ∃u,(loadVar t ⟨b,o+M',none⟩).run P w=.ok u w∧an S μ w d u:=by
 unfold du at hp
 split at hp
 ·rename_i hc
  simp only[RA,Sh,SM,RY]at hc
  obtain⟨⟨hk,hl⟩,hs⟩:=hc
  simp only[RI]at hp
  obtain⟨rfl,_⟩:=hp
  have h':kV S μ w b (o+M') (cs.drop M'):=fun j y hy=>by
   rw[SV]at hy
   rw[Nat.add_assoc]
   exact h _ _ hy
  unfold loadVar
  simp only[RG,xl hk,RF]
  cases ha:xk P t
  ·simp only[SC,Ti]
   rw[ha]at hs
   have Ur:aE P t=1:=by simpa using hs
   have Un:M'<cs.length:=by omega
   obtain⟨u,hu,hr⟩:=h M' cs[M'] (RB Un)
   refine⟨u,by simp[load,Sem.run,hu],?_⟩
   rw[dF _ _ Un]
   exact hr
  ·simp only[Tj]
   obtain⟨us,h1,h2,h3⟩:=jw (P:=P) h' (aE P t) 0 #[] (by rw[Sd];omega)
   refine⟨.agg us,?_,.agg _ _ (by rw[h2,RZ,Sd];omega) (fun j y u hy hu=>h3 j y u ?_ hu)⟩
   ·simp only[RG,d9 hk,RF,loadCells,h1,R5,Array.empty_append]
   ·rw[R8]at hy
    split at hy
    ·simpa using hy
    ·cases hy
 ·simp only[aN,RI]at hp
  obtain⟨_,rfl⟩:=hp
  exact G'.elim
theorem j9 {E sz n:Nat} {u:Value} {xs:List Value} (h:w.ownsRow 0 E sz u n xs) {b:Nat} (hb:aI u=some b):∀j z,xs[j]?=some z→w.cell? ⟨b,j,none⟩=some z:=by
 intro j z hz
 have G':u.ownBlock=some b:=by
  cases u<;>simp[aI]at hb ⊢
  ·obtain⟨h1,h2⟩:=h
   rcases h2 with ⟨h2,_⟩ | ⟨_,_,_,h2,_⟩<;>cases h2
  ·rename_i a len cap
   cases a with
   | none=>simp at hb
   | some a=>simp at hb;simp[Value.ownBlock,hb]
  ·obtain⟨h1,h2⟩:=h
   rcases h2 with ⟨h2,_⟩ | ⟨_,_,_,h2,_⟩<;>cases h2
 have:=h.cells G' j z hz
 rwa [dP,Sp]at this
theorem aH.arr_cells {E sz:Nat} {α:Type} {enc:α→List V} {d:α} {l:List α} {u:Value} (h:aH S μ w u (.arr E sz enc d l)) {b i:Nat} (hb:aI u=some b) (hi:i<l.length) :
  kV S μ w b (i*sz) ((enc (l.getD i d)).map D.v):=by
 obtain⟨h0,xs,h1,h2⟩:=h
 intro j y hy
 rw[R3]at hy
 have hx:l[i]?=some (l.getD i d):=by rw[dF _ _ hi];exact RB hi
 cases he:(enc (l.getD i d))[j]? with
 | none=>rw[he]at hy;cases hy
 | some z =>
  rw[he]at hy
  simp only[Sr,RM]at hy
  subst hy
  obtain⟨q,hq,hr⟩:=h2 i _ j z hx he
  exact⟨q,j9 h1 hb _ _ hq,.v _ _ hr⟩
theorem aH.arrD_cells {E sz n:Nat} {gs:List Nat} {cell:Nat→Nat→D} {u:Value} (h:aH S μ w u (.arrD E sz n gs cell)) {b i:Nat} (hb:aI u=some b) (hi:i<n) :
  kV S μ w b (i*sz) ((List.range sz).map (cell i)):=by
 obtain⟨h0,xs,h1,h2⟩:=h
 intro j y hy
 rw[R3]at hy
 by_cases hj:j<sz
 ·rw[List.getElem?_range hj]at hy
  simp only[Sr,RM]at hy
  subst hy
  obtain⟨z,hz,_,hr⟩:=h2 i j hi hj
  exact⟨z,j9 h1 hb _ _ hz,hr⟩
 ·rw[Sm (by simp;omega)]at hy
  cases hy
theorem aH.var_cells {T:TypeId} {cs:List D} {u:Value} (h:aH S μ w u (.var T cs)) {b:Nat} (hb:aI u=some b):kV S μ w b 0 cs:=by
 obtain⟨b',vs,rfl,h1,h2,h3⟩:=h
 simp[aI]at hb
 subst hb
 intro j y hy
 have hj:=(Rz.1 hy).1
 have hv:vs[j]?=some vs[j]:=R0 (by omega)
 refine⟨vs[j],?_,h3 j y _ hy hv⟩
 simp[World.cell?,h1,hv]
theorem ve {cs:List V} {M':Nat} {u:Value} (h:an S μ w (.iptr cs M') u):∃b o,u=.pointer (some ⟨b,o+M',none⟩)∧kV S μ w b o (cs.map D.v):=by
 cases h with
 | iptr _ _ b o us h1 h2 h3 h4 =>
  refine⟨b,o,rfl,fun j y hy=>?_⟩
  rw[R3]at hy
  cases he:cs[j]? with
  | none=>rw[he]at hy;cases hy
  | some z =>
   rw[he]at hy
   simp only[Sr,RM]at hy
   subst hy
   exact⟨_,h3 j z he,.v _ _ (h4 j z he)⟩
theorem oe {id i sz M':Nat} {u:Value} (h:an S μ w (.ptr id i sz M') u):∃b,aI (μ id)=some b∧u=.pointer (some ⟨b,i*sz+M',none⟩):=by
 cases h with
 | ptr _ _ _ _ b h=>exact⟨b,h,rfl⟩
theorem tq {t:TypeId} {H:List ap} (hH:bp S μ w H) {a d:D} {p:Prop} {ua:Value} (ha:an S μ w a ua) (hp:D2 P t H a=(d,p)) (G':p) :
  ∃u,(Instr.loadAt t ua).run P w=.ok u w∧an S μ w d u:=by
 unfold D2 at hp
 split at hp
 ·rename_i id i sz M'
  obtain⟨b,hb,rfl⟩:=oe ha
  split at hp
  ·rename_i T cs N'
   split at hp
   ·rename_i hi
    simp only[RY]at hi
    subst hi
    obtain⟨u,h1,h2⟩:=gQ (P:=P) hp G' ((hH.box id _ N').var_cells hb)
    refine⟨u,?_,h2⟩
    simpa[Instr.loadAt,Instr.sureAddr]using h1
   ·cases hp;exact G'.elim
  ·rename_i E UR enc d' l N'
   split at hp
   ·rename_i hs
    simp only[RY]at hs
    subst hs
    generalize hq:du P t ((enc (l.getD i d')).map D.v) M'=q at hp
    obtain⟨x,p'⟩:=q
    simp only[RI]at hp
    obtain⟨rfl,rfl⟩:=hp
    obtain⟨u,h1,h2⟩:=gQ (P:=P) hq G'.2 ((hH.box id _ N').arr_cells hb G'.1)
    refine⟨u,?_,h2⟩
    simpa[Instr.loadAt,Instr.sureAddr]using h1
   ·cases hp;exact G'.elim
  ·rename_i E UR enc d' l N'
   split at hp
   ·rename_i hs
    simp only[RY]at hs
    subst hs
    generalize hq:du P t ((enc (l.getD i d')).map D.v) M'=q at hp
    obtain⟨x,p'⟩:=q
    simp only[RI]at hp
    obtain⟨rfl,rfl⟩:=hp
    obtain⟨u,h1,h2⟩:=gQ (P:=P) hq G'.2 ((hH.box id _ N').ro_arr.arr_cells hb G'.1)
    refine⟨u,?_,h2⟩
    simpa[Instr.loadAt,Instr.sureAddr]using h1
   ·cases hp;exact G'.elim
  ·rename_i E UR n gs cell N'
   split at hp
   ·rename_i hs
    simp only[RY]at hs
    subst hs
    generalize hq:du P t ((List.range sz).map (cell i)) M'=q at hp
    obtain⟨x,p'⟩:=q
    simp only[RI]at hp
    obtain⟨rfl,rfl⟩:=hp
    obtain⟨u,h1,h2⟩:=gQ (P:=P) hq G'.2 ((hH.box id _ N').arrD_cells hb G'.1)
    refine⟨u,?_,h2⟩
    simpa[Instr.loadAt,Instr.sureAddr]using h1
   ·cases hp;exact G'.elim
  ·cases hp;exact G'.elim
 ·rename_i cs M'
  obtain⟨b,o,rfl,hc⟩:=ve ha
  obtain⟨u,h1,h2⟩:=gQ (P:=P) hp G' hc
  refine⟨u,?_,h2⟩
  simpa[Instr.loadAt,Instr.sureAddr]using h1
 ·cases hp;exact G'.elim
end
end Go.Proofs.YtckgpflobhpnpaaGreat
namespace Go.Proofs.YtckgpflobhpnpaaGreat
open Go.RowKit
set_option linter.unusedVariables false
set_option linter.unusedSimpArgs false
def vf (n:Nat):D→R1
 | .ptr id i sz M'=>(.ptr id i sz (M'+n),True)
 | .iptr cs M'=>(.iptr cs (M'+n),True)
 | _=>aN
def pX (P:Program) (s:TypeId) (x:D) (f:Nat):R1 :=
 match P.underlying s with
 | some (.struct fs)=>match fs[f]? with
  | some Y1=>if cN P Y1.type&&!(Nat.beq (aE P Y1.type) 0)then vf Y1.offset x else aN
  | none=>aN
 | _=>aN
def pY (P:Program) (t:TypeId) (H:List ap) (x i:D):R1 :=
 match P.underlying t,x,i with
 | some (.slice e),.v (.sl sz enc d l),.v (.int _ n)=>if cN P e&&Nat.beq (aE P e) sz then (.iptr (enc (l.getD n.toNat d)) 0,0≤n∧n<l.length)else aN
 | some (.slice e),.own id,.v (.int _ n)=>match H[id]? with
  | some (.arr _ sz _ _ l)=>if cN P e&&Nat.beq (aE P e) sz then (.ptr id n.toNat sz 0,0≤n∧n<l.length)else aN
  | some (.ro _ sz _ _ l)=>if cN P e&&Nat.beq (aE P e) sz then (.ptr id n.toNat sz 0,0≤n∧n<l.length)else aN
  | some (.arrD _ sz m _ _)=>if cN P e&&Nat.beq (aE P e) sz then (.ptr id n.toNat sz 0,0≤n∧n<(m:Int))else aN
  | _=>aN
 | some (.array len e),x,.v (.int _ n)=>if cN P e then (match vf (n.toNat*aE P e) x with | (y,p)=>(y,(0≤n∧n<(len:Int))∧p))else aN
 | _,_,_=>aN
def Cu (P:Program) (t:TypeId) (x:D) (f:Nat):R1 :=
 match P.underlying t,x with
 | some (.struct fs),.agg cs=>match fs[f]? with
  | some Y1=>du P Y1.type cs Y1.offset
  | none=>aN
 | _,_=>aN
def Cv (P:Program) (t:TypeId) (x i:D):R1 :=
 match P.underlying t,x,i with
 | some (.array len e),.agg cs,.v (.int _ n)=>(match du P e cs (n.toNat*aE P e)with | (y,p)=>(y,(0≤n∧n<(len:Int))∧p))
 | some .string,.v (.str s),.v (.int _ n)=>(.v (.int .u8 ((s[n.toNat]?).getD 0).toNat),0≤n∧n<s.size)
 | _,_,_=>aN
def J6:D→Int
 | .v (.int _ n)=>n
 | _=>0
def Cw:D→Bool
 | .v (.int _ _)=>true
 | _=>false
def pZ:Option D→Int
 | some d=>J6 d
 | none=>0
def iC (n:Int):Option D→Int
 | some d=>J6 d
 | none=>n
def yE:Option D→Bool
 | some d=>Cw d
 | none=>true
def yF {α:Type} (l:List α):Option D→List α
 | some h=>l.take (J6 h).toNat
 | none=>l
def yG (P:Program) (t:TypeId) (x:D) (lo hi mx:Option D):R1 :=
 match P.underlying t,x,lo,hi,mx with
 | some (.slice e),.v (.sl sz enc d l),none,some (.v (.int _ h)),some (.v (.int _ k))=>if cN P e&&Nat.beq (aE P e) sz then
   (.capd (.sl sz enc d (l.take h.toNat)),0≤h∧h≤l.length∧k=h)else aN
 | _,_,_,_,_=>aN
def sn:List V→Option (IntKind×List Int)
 | [.int k n]=>some (k,[n])
 | .int k n::r=>match sn r with
  | some (k',l)=>if k==k' then some (k,n::l)else none
  | none=>none
 | _=>none
def Cx (P:Program) (t:TypeId) (x:D) (lo hi mx:Option D):R1 :=
 if mx.isSome then yG P t x lo hi mx else
 if yE lo&&yE hi&&mx.isNone then
  match P.underlying t,x with
  | some (.slice e),.v (.sl sz enc d l)=>if cN P e&&Nat.beq (aE P e) sz then
    (.v (.sl sz enc d ((yF l hi).drop (pZ lo).toNat)),0≤pZ lo∧pZ lo≤iC l.length hi∧iC l.length hi≤l.length)else aN
  | some .string,.v (.str s)=>(.v (.str (s.extract (pZ lo).toNat (iC s.size hi).toNat)),0≤pZ lo∧pZ lo≤iC s.size hi∧iC s.size hi≤s.size)
  | some (.array n e),.iptr cs M'=>match sn cs with
   | some (k,l)=>if cN P e&&Nat.beq (aE P e) 1&&Nat.beq l.length n&&Nat.beq M' 0&&Nat.ble n maxLen then
     (.v (.sl 1 (fun x:Int=>[.int k x]) 0 ((yF l hi).drop (pZ lo).toNat)),0≤pZ lo∧pZ lo≤iC l.length hi∧iC l.length hi≤l.length)else aN
   | none=>aN
  | _,_=>aN
 else aN
section
variable {P:Program} {S:Nat→Prop} {μ:Nat→Value} {w:World}
theorem qD {n:Nat} {x d:D} {p:Prop} {ux:Value} (hx:an S μ w x ux) (hp:vf n x=(d,p)) (G':p) :
  ∃b o,ux=.pointer (some ⟨b,o,none⟩)∧an S μ w d (.pointer (some ⟨b,o+n,none⟩)):=by
 unfold vf at hp
 split at hp
 ·rename_i id i sz M'
  obtain⟨b,hb,rfl⟩:=oe hx
  cases hp
  exact⟨b,_,rfl,by rw[Nat.add_assoc];exact .ptr _ _ _ _ _ hb⟩
 ·rename_i cs M'
  cases hp
  cases hx with
  | iptr _ _ b o us h1 h2 h3 h4=>exact⟨b,_,rfl,by rw[Nat.add_assoc];exact .iptr cs _ b o us h1 h2 h3 h4⟩
 ·cases hp;exact G'.elim
theorem so {s:TypeId} {x d:D} {f:Nat} {p:Prop} {ux:Value} (hx:an S μ w x ux) (hp:pX P s x f=(d,p)) (G':p) :
  ∃u,(Instr.fieldAt s ux f).run P w=.ok u w∧an S μ w d u:=by
 unfold pX at hp
 split at hp
 ·rename_i fs hu
  split at hp
  ·rename_i Y1 hf
   split at hp
   ·rename_i hc
    simp only[RA,Sj,RY]at hc
    obtain⟨hk,hz⟩:=hc
    have hz:aE P Y1.type≠0:=by
     intro e
     rw[e]at hz
     cases hz
    obtain⟨b,o,rfl,hd⟩:=qD hx hp G'
    refine⟨_,?_,hd⟩
    have hr:(fieldPlace ⟨b,o,none⟩ Y1).run P w=.ok ⟨b,o+Y1.offset,none⟩ w:=by
     unfold fieldPlace
     simp only[RG,d9 hk,RF]
     rw[RE hz,R5,dP]
    simp only[Instr.fieldAt,RG,Sl hu,RF,hf,Instr.sureAddr,R5,hr]
   ·cases hp;exact G'.elim
  ·cases hp;exact G'.elim
 ·cases hp;exact G'.elim
theorem fJ {sz:Nat} {α:Type} {enc:α→List V} {d:α} {l:List α} {u:Value} (h:dM S w (.sl sz enc d l) u) :
  ∃p c,u=.slice p l.length c∧l.length≤c∧c≤maxLen∧(p=none→c=0)∧(0<l.length→∃(b M':Nat) (us:Nat→Nat→Value),p=some ⟨b,M',none⟩∧S b∧b<w.heap.size ∧
   (∀(i:Nat) (x:α),l[i]?=some x→(enc x).length=sz) ∧
   (∀(i:Nat) (x:α) (j:Nat) (y:V),l[i]?=some x→(enc x)[j]?=some y→w.cell? ⟨b,M'+(i*sz+j),none⟩=some (us i j)) ∧
   (∀(i:Nat) (x:α) (j:Nat) (y:V),l[i]?=some x→(enc x)[j]?=some y→dM S w y (us i j))):=by
 generalize hv:V.sl sz enc d l=v at h
 cases h with
 | int k n=>cases hv
 | bool b=>cases hv
 | str s=>cases hv
 | mp=>cases hv
 | nilf=>cases hv
 | nsl=>cases hv
 | esl=>cases hv
 | smn=>cases hv
 | sm=>cases hv
 | nmp=>cases hv
 | fnv=>cases hv
 | nil UR Up d' p c h1 h2 =>
  cases hv
  exact⟨p,c,rfl,Su _,h1,h2,fun h=>absurd h (by simp)⟩
 | row UR Up d' l' b M' c n us h1 h2 h3 h4 h5 h6 h7 h8 =>
  cases hv
  subst h3
  exact⟨_,c,rfl,h4,h5,(fun h=>by cases h),fun _=>⟨b,M',us,rfl,h1,h2,h6,h7,h8⟩⟩
theorem p5 {sz:Nat} {α:Type} {enc:α→List V} {d:α} {l:List α} {p:Option Addr} {n c:Nat} (hn:n=l.length) (h1:l.length≤c) (h2:c≤maxLen) (h3:p=none→c=0)
  (h:0<l.length→∃(b M':Nat) (us:Nat→Nat→Value),p=some ⟨b,M',none⟩∧S b∧b<w.heap.size ∧
   (∀(i:Nat) (x:α),l[i]?=some x→(enc x).length=sz) ∧
   (∀(i:Nat) (x:α) (j:Nat) (y:V),l[i]?=some x→(enc x)[j]?=some y→w.cell? ⟨b,M'+(i*sz+j),none⟩=some (us i j)) ∧
   (∀(i:Nat) (x:α) (j:Nat) (y:V),l[i]?=some x→(enc x)[j]?=some y→dM S w y (us i j))):dM S w (.sl sz enc d l) (.slice p n c):=by
 subst hn
 cases l with
 | nil=>exact .nil sz enc d p c h2 h3
 | cons x l =>
  obtain⟨b,M',us,rfl,q1,q2,q3,q4,q5⟩:=h (by simp)
  exact .row sz enc d _ b M' c _ us q1 q2 rfl h1 h2 q3 q4 q5
theorem cD {E sz:Nat} {α:Type} {enc:α→List V} {d:α} {l:List α} {u:Value} (h:aH S μ w u (.arr E sz enc d l)) :
  ∃p c,u=.slice p l.length c∧l.length≤c∧c≤maxLen∧(p=none→c=0)∧(0<l.length→∃g,p=some ⟨g,0,none⟩):=by
 obtain⟨_,xs,⟨h1,h2⟩,_⟩:=h
 rcases h2 with ⟨rfl,hl⟩ | ⟨g,cap,UH,rfl,hg,hh,q1,q2,_⟩
 ·exact⟨none,0,by rw[hl],by omega,by simp[maxLen],fun _=>rfl,fun h=>by omega⟩
 ·exact⟨_,cap,rfl,q1,q2,(fun h=>by cases h),fun _=>⟨g,rfl⟩⟩
theorem ft {E sz n:Nat} {gs:List Nat} {cell:Nat→Nat→D} {u:Value} (h:aH S μ w u (.arrD E sz n gs cell)) :
  ∃p c,u=.slice p n c∧n≤c∧c≤maxLen∧(p=none→c=0)∧(0<n→∃g,p=some ⟨g,0,none⟩):=by
 obtain⟨_,xs,⟨h1,h2⟩,_⟩:=h
 rcases h2 with ⟨rfl,hl⟩ | ⟨g,cap,UH,rfl,hg,hh,q1,q2,_⟩
 ·exact⟨none,0,by rw[hl],by omega,by simp[maxLen],fun _=>rfl,fun h=>by omega⟩
 ·exact⟨_,cap,rfl,q1,q2,(fun h=>by cases h),fun _=>⟨g,rfl⟩⟩
theorem bW {k:IntKind} {n:Int} {u:Value} (h:an S μ w (.v (.int k n)) u):u=.int k n:=by
 cases h with | v _ _ h=>cases h;rfl
theorem fK {b:Bool} {u:Value} (h:an S μ w (.v (.bool b)) u):u=.bool b:=by
 cases h with | v _ _ h=>cases h;rfl
theorem gJ {s:ByteArray} {u:Value} (h:an S μ w (.v (.str s)) u):u=.string s:=by
 cases h with | v _ _ h=>cases h;rfl
theorem bv {x:V} {u:Value} (h:an S μ w (.v x) u):dM S w x u:=by
 cases h with | v _ _ h=>exact h
theorem bX {id:Nat} {u:Value} (h:an S μ w (.own id) u):u=μ id:=by
 cases h;rfl
theorem fL {t e:TypeId} {p:Addr} {len c:Nat} {k:IntKind} {n:Int} (hu:P.underlying t=some (.slice e)) (hk:cN P e=true) (h0:0≤n) (h1:n<len) :
  (Instr.indexAt t (.slice (some p) len c) (.int k n)).run P w=.ok (.pointer (some (p.add (n.toNat*aE P e)))) w:=by
 unfold Instr.indexAt
 simp only[asIntOf,RG,R5,RF,Sl hu]
 rw[RH ⟨h0,h1⟩]
 simp only[RG,d9 hk,RF,R5]
theorem tX {t e:TypeId} {p:Addr} {len:Nat} {k:IntKind} {n:Int} (hu:P.underlying t=some (.array len e)) (hk:cN P e=true) (h0:0≤n) (h1:n<len) :
  (Instr.indexAt t (.pointer (some p)) (.int k n)).run P w=.ok (.pointer (some (p.add (n.toNat*aE P e)))) w:=by
 unfold Instr.indexAt
 simp only[asIntOf,RG,R5,RF,Sl hu,Instr.sureAddr]
 rw[RH ⟨h0,h1⟩]
 simp only[RG,d9 hk,RF,R5]
theorem sq {t:TypeId} {H:List ap} (hH:bp S μ w H) {x i d:D} {p:Prop} {ux ui:Value} (hx:an S μ w x ux) (hi:an S μ w i ui) (hp:pY P t H x i=(d,p)) (G':p) :
  ∃u,(Instr.indexAt t ux ui).run P w=.ok u w∧an S μ w d u:=by
 unfold pY at hp
 split at hp
 ·rename_i e sz α enc d' l k n hu
  split at hp
  ·rename_i hc
   simp only[RA,RY]at hc
   obtain⟨hk,rfl⟩:=hc
   simp only[RI]at hp
   obtain⟨rfl,rfl⟩:=hp
   obtain⟨h0,h1⟩:=G'
   rw[bW hi]
   obtain⟨q,c,rfl,q1,q2,q3,q4⟩:=fJ (bv hx)
   obtain⟨b,M',us,rfl,r1,r2,r3,r4,r5⟩:=q4 (by omega)
   refine⟨_,fL hu hk h0 (by omega),?_⟩
   have hl:l[n.toNat]?=some (l.getD n.toNat d'):=by rw[dF _ _ (by omega)];exact RB (by omega)
   rw[dP]
   have:=an.iptr (S:=S) (μ:=μ) (w:=w) (enc (l.getD n.toNat d')) 0 b (M'+n.toNat*aE P e) (us n.toNat) r1 r2 (fun j y hy=>by rw[Nat.add_assoc];exact r4 _ _ _ _ hl hy) (fun j y hy=>r5 _ _ _ _ hl hy)
   rwa [SY]at this
  ·cases hp;exact G'.elim
 ·rename_i e id k n hu
  split at hp
  ·rename_i E sz α enc d' l N'
   split at hp
   ·rename_i hc
    simp only[RA,RY]at hc
    obtain⟨hk,rfl⟩:=hc
    simp only[RI]at hp
    obtain⟨rfl,rfl⟩:=hp
    obtain⟨h0,h1⟩:=G'
    rw[bW hi,bX hx]
    obtain⟨q,c,hm,q1,q2,q3,q4⟩:=cD (hH.box id _ N')
    obtain⟨g,rfl⟩:=q4 (by omega)
    rw[hm]
    refine⟨_,fL hu hk h0 (by omega),?_⟩
    rw[dP,Sp]
    have:=an.ptr (S:=S) (w:=w) id n.toNat (aE P e) 0 g (by rw[hm];rfl:aI (μ id)=some g)
    rwa [SY]at this
   ·cases hp;exact G'.elim
  ·rename_i E sz α enc d' l N'
   split at hp
   ·rename_i hc
    simp only[RA,RY]at hc
    obtain⟨hk,rfl⟩:=hc
    simp only[RI]at hp
    obtain⟨rfl,rfl⟩:=hp
    obtain⟨h0,h1⟩:=G'
    rw[bW hi,bX hx]
    obtain⟨q,c,hm,q1,q2,q3,q4⟩:=cD (hH.box id _ N').ro_arr
    obtain⟨g,rfl⟩:=q4 (by omega)
    rw[hm]
    refine⟨_,fL hu hk h0 (by omega),?_⟩
    rw[dP,Sp]
    have:=an.ptr (S:=S) (w:=w) id n.toNat (aE P e) 0 g (by rw[hm];rfl:aI (μ id)=some g)
    rwa [SY]at this
   ·cases hp;exact G'.elim
  ·rename_i E sz m gs cell N'
   split at hp
   ·rename_i hc
    simp only[RA,RY]at hc
    obtain⟨hk,rfl⟩:=hc
    simp only[RI]at hp
    obtain⟨rfl,rfl⟩:=hp
    obtain⟨h0,h1⟩:=G'
    rw[bW hi,bX hx]
    obtain⟨q,c,hm,q1,q2,q3,q4⟩:=ft (hH.box id _ N')
    obtain⟨g,rfl⟩:=q4 (by omega)
    rw[hm]
    refine⟨_,fL hu hk h0 (by omega),?_⟩
    rw[dP,Sp]
    have:=an.ptr (S:=S) (w:=w) id n.toNat (aE P e) 0 g (by rw[hm];rfl:aI (μ id)=some g)
    rwa [SY]at this
   ·cases hp;exact G'.elim
  ·cases hp;exact G'.elim
 ·rename_i x _ _ _ len e k n hu
  split at hp
  ·rename_i hk
   generalize hq:vf (n.toNat*aE P e) x=q at hp
   obtain⟨y,p'⟩:=q
   simp only[RI]at hp
   obtain⟨rfl,rfl⟩:=hp
   obtain⟨⟨h0,h1⟩,G'⟩:=G'
   obtain⟨b,o,rfl,hd⟩:=qD hx hq G'
   rw[bW hi]
   exact⟨_,tX hu hk h0 (by omega),by rw[dP];exact hd⟩
  ·cases hp;exact G'.elim
 ·cases hp;exact G'.elim
theorem gR {t:TypeId} {cs:List D} {us:Array Value} {M':Nat} {d:D} {p:Prop} (hs:us.size=cs.length) (h:∀(j:Nat) (y:D) (u:Value),cs[j]?=some y→us[j]?=some u→an S μ w y u)
  (hp:du P t cs M'=(d,p)) (G':p):∃u,(part t us M').run P w=.ok u w∧an S μ w d u:=by
 unfold du at hp
 split at hp
 ·rename_i hc
  simp only[RA,Sh,SM,RY]at hc
  obtain⟨⟨hk,hl⟩,hz⟩:=hc
  simp only[RI]at hp
  obtain⟨rfl,_⟩:=hp
  unfold part
  simp only[RG,xl hk,RF]
  cases ha:xk P t
  ·simp only[SC,Ti]
   rw[ha]at hz
   have Ur:aE P t=1:=by simpa using hz
   have Un:M'<cs.length:=by omega
   have hu:us[M']?=some us[M']:=R0 (by omega)
   refine⟨us[M'],by rw[hu];rfl,?_⟩
   rw[dF _ _ Un]
   exact h M' _ _ (RB Un) hu
  ·simp only[Tj]
   refine⟨.agg (us.extract M' (M'+aE P t)),by simp only[RG,d9 hk,RF,R5],.agg _ _ ?_ (fun j y u hy hu=>?_)⟩
   ·simp;omega
   ·rw[R8]at hy
    split at hy
    ·rename_i hj
     rw[SV]at hy
     rw[Array.getElem?_extract,RH (by omega)]at hu
     exact h _ _ _ hy hu
    ·cases hy
 ·simp only[aN,RI]at hp
  obtain⟨_,rfl⟩:=hp
  exact G'.elim
theorem fm {cs:List D} {u:Value} (h:an S μ w (.agg cs) u):∃us:Array Value,u=.agg us∧us.size=cs.length∧∀(j:Nat) (y:D) (u:Value),cs[j]?=some y→us[j]?=some u→an S μ w y u:=by
 cases h with | agg _ us h1 h2=>exact⟨us,rfl,h1,h2⟩
theorem ud {cs:List D} {u:Value} (h:an S μ w (.tup cs) u):∃us:Array Value,u=.tuple us∧us.size=cs.length∧∀(j:Nat) (y:D) (u:Value),cs[j]?=some y→us[j]?=some u→an S μ w y u:=by
 cases h with | tup _ us h1 h2=>exact⟨us,rfl,h1,h2⟩
theorem yH {t:TypeId} {x d:D} {f:Nat} {p:Prop} {ux:Value} (hx:an S μ w x ux) (hp:Cu P t x f=(d,p)) (G':p) :
  ∃u,(Instr.field t ux f).run P w=.ok u w∧an S μ w d u:=by
 unfold Cu at hp
 split at hp
 ·rename_i fs cs hu
  split at hp
  ·rename_i Y1 hf
   obtain⟨us,rfl,h1,h2⟩:=fm hx
   obtain⟨u,h3,h4⟩:=gR (P:=P) h1 h2 hp G'
   exact⟨u,by simp only[Instr.field,RG,Sl hu,RF,hf,asAgg,R5,h3],h4⟩
  ·cases hp;exact G'.elim
 ·cases hp;exact G'.elim
theorem yI {t:TypeId} {x i d:D} {p:Prop} {ux ui:Value} (hx:an S μ w x ux) (hi:an S μ w i ui) (hp:Cv P t x i=(d,p)) (G':p) :
  ∃u,(Instr.index t ux ui).run P w=.ok u w∧an S μ w d u:=by
 unfold Cv at hp
 split at hp
 ·rename_i len e cs k n hu
  generalize hq:du P e cs (n.toNat*aE P e)=q at hp
  obtain⟨y,p'⟩:=q
  simp only[RI]at hp
  obtain⟨rfl,rfl⟩:=hp
  obtain⟨⟨h0,h1⟩,G'⟩:=G'
  rw[bW hi]
  obtain⟨us,rfl,h2,h3⟩:=fm hx
  have hk:cN P e=true:=by
   unfold du at hq
   split at hq
   ·rename_i hc
    simp only[RA]at hc
    exact hc.1.1
   ·cases hq;exact G'.elim
  obtain⟨u,h4,h5⟩:=gR (P:=P) h2 h3 hq G'
  refine⟨u,?_,h5⟩
  unfold Instr.index
  simp only[asIntOf,RG,R5,RF,Sl hu]
  rw[RH ⟨h0,h1⟩]
  simp only[RG,d9 hk,RF,h4]
 ·rename_i s k n hu
  simp only[RI]at hp
  obtain⟨rfl,rfl⟩:=hp
  obtain⟨h0,h1⟩:=G'
  rw[bW hi,gJ hx]
  have hn:n.toNat<s.size:=by omega
  have hs:s[n.toNat]?=some s[n.toNat]:=by simp[hn]
  refine⟨.int .u8 (s[n.toNat]).toNat,?_,?_⟩
  ·unfold Instr.index
   simp only[asIntOf,RG,R5,RF,Sl hu]
   rw[RH h0,hs]
   rfl
  ·rw[hs]
   exact .v _ _ (.int _ _)
 ·cases hp;exact G'.elim
end
end Go.Proofs.YtckgpflobhpnpaaGreat
namespace Go.Proofs.YtckgpflobhpnpaaGreat
open Go.RowKit
set_option linter.unusedVariables false
set_option linter.unusedSimpArgs false
def Cy (op:BinOp) (k:IntKind) (a b:Int):R1 :=
 match op with
 | .add=>(.v (.int k (k.wrap (a+b))),True)
 | .sub=>(.v (.int k (k.wrap (a-b))),True)
 | .mul=>(.v (.int k (k.wrap (a*b))),True)
 | .quo=>(.v (.int k (k.wrap (a.tdiv b))),b≠0)
 | .rem=>(.v (.int k (a.tmod b)),b≠0)
 | .and=>(.v (.int k (k.wrap (BitVec.ofInt k.bits a &&& BitVec.ofInt k.bits b).toNat)),True)
 | .or=>(.v (.int k (k.wrap (BitVec.ofInt k.bits a ||| BitVec.ofInt k.bits b).toNat)),True)
 | .xor=>(.v (.int k (k.wrap (BitVec.ofInt k.bits a ^^^ BitVec.ofInt k.bits b).toNat)),True)
 | .andNot=>(.v (.int k (k.wrap (BitVec.ofInt k.bits a &&& ~~~(BitVec.ofInt k.bits b)).toNat)),True)
 | .eql=>(.v (.bool (a==b)),True)
 | .neq=>(.v (.bool (a != b)),True)
 | .lss=>(.v (.bool (decide (a<b))),True)
 | .leq=>(.v (.bool (decide (a≤b))),True)
 | .gtr=>(.v (.bool (decide (a>b))),True)
 | .geq=>(.v (.bool (decide (a≥b))),True)
 | _=>aN
def D3:BinOp→Bool | .shl=>true | .shr=>true | _=>false
def Cz (op:BinOp) (k:IntKind) (a b:Int):R1 :=
 match op with
 | .shl=>(.v (.int k (k.wrap (a*2^min b.toNat k.bits))),0≤b)
 | .shr=>(.v (.int k (a.fdiv (2^min b.toNat k.bits))),0≤b)
 | _=>aN
def Mh (op:BinOp) (x y:ByteArray):R1 :=
 match op with
 | .add=>(.v (.str (x++y)),((x.size+y.size:Nat):Int)≤IntKind.i64.max)
 | .eql=>(.v (.bool (x.toList==y.toList)),True)
 | .neq=>(.v (.bool (!(x.toList==y.toList))),True)
 | _=>aN
def Hh:Option TypeDesc→D→D→Option Bool
 | some (.int _),.v (.int k a),.v (.int k' b)=>if k==k' then some (a==b)else none
 | some .bool,.v (.bool a),.v (.bool b)=>some (a==b)
 | some .string,.v (.str a),.v (.str b)=>some (a.toList==b.toList)
 | _,_,_=>none
def ue (P:Program) (xs ys:List D) (f:Field):Option Bool :=
 if f.name ≠ "_" then Hh (P.underlying f.type) (du P f.type xs f.offset).1 (du P f.type ys f.offset).1 else none
def mE (P:Program) (xs ys:List D):List Field→Option Bool
 | []=>some true
 | [f]=>ue P xs ys f
 | f::fs=>match ue P xs ys f,mE P xs ys fs with
  | some a,some b=>some (a&&b)
  | _,_=>none
def xm (P:Program) (t:TypeId):Bool:=match P.underlying t with | some (.struct _)=>true | _=>false
def LD (P:Program) (op:BinOp) (t:TypeId) (xs ys:List D):R1 :=
 if !P.stoodInHeld t&&!P.eqGuardType P.depth t&&xm P t then
  match mE P xs ys (P.fieldsOf t).toList,op with
  | some b,.eql=>(.v (.bool b),True)
  | some b,.neq=>(.v (.bool (!b)),True)
  | _,_=>aN
 else aN
def Hi:D→Option (Bool×Prop)
 | .nils=>some (true,True)
 | .v .nsl=>some (true,True)
 | .v .esl=>some (false,True)
 | .v (.sl _ _ _ l)=>some (false,l≠[])
 | _=>none
def CA:D→Option Bool
 | .v .nilf=>some true
 | .fn _ _ _=>some false
 | _=>none
def vg (P:Program) (t:TypeId):Bool:=match P.underlying t with | some (.slice _)=>true | _=>false
def yJ (P:Program) (t:TypeId):Bool:=match P.underlying t with | some (.func _ _ _)=>true | _=>false
def AH (op:BinOp) (b:Bool) (p:Prop):R1:=match op with
 | .eql=>(.v (.bool b),p)
 | .neq=>(.v (.bool (!b)),p)
 | _=>aN
def Mi (P:Program) (op:BinOp) (t:TypeId) (x y:D):R1 :=
 match x,y with
 | .v (.int k a),.v (.int k' b)=>if D3 op then Cz op k a b else if k==k' then Cy op k a b else aN
 | .v (.str a),.v (.str b)=>Mh op a b
 | .v (.bool a),.v (.bool b)=>match P.underlying t with
  | some .bool=>(match op with | .eql=>(.v (.bool (a==b)),True) | .neq=>(.v (.bool (!(a==b))),True) | _=>aN)
  | _=>aN
 | .agg xs,.agg ys=>LD P op t xs ys
 | x,.nils=>match Hi x with
  | some (b,p)=>if vg P t then AH op b p else aN
  | none=>aN
 | x,.v .nilf=>match CA x with
  | some b=>if yJ P t then AH op b True else aN
  | none=>aN
 | _,_=>aN
def PF (op:UnOp) (x:D):R1 :=
 match op,x with
 | .neg,.v (.int k n)=>(.v (.int k (k.wrap (0-n))),True)
 | .xor,.v (.int k n)=>(.v (.int k (k.wrap (BitVec.ofInt k.bits (if k.signed then -1 else k.max) ^^^ BitVec.ofInt k.bits n).toNat)),True)
 | .not,.v (.bool b)=>(.v (.bool (!b)),True)
 | _,_=>aN
def Hj (P:Program) (src dst:TypeId) (x:D):R1 :=
 if cN P src then
  match P.underlying dst,x with
  | some (.int k),.v (.int _ n)=>(match P.underlying src with | some .string=>aN | _=>(.v (.int k (k.wrap n)),True))
  | some .string,.v (.str s)=>(.v (.str s),True)
  | _,_=>aN
 else aN
def Mj (P:Program) (t:TypeId) (H:List ap) (x:D):R1 :=
 match P.underlying t,x with
 | some .string,.v (.str s)=>(.v (.int .i64 (s.size:Int)),True)
 | some (.array n _),_=>(.v (.int .i64 (n:Int)),True)
 | some (.slice _),.v (.sl _ _ _ l)=>(.v (.int .i64 (l.length:Int)),True)
 | some (.slice _),.nils=>(.v (.int .i64 0),True)
 | some (.slice _),.v .nsl=>(.v (.int .i64 0),True)
 | some (.slice _),.v .esl=>(.v (.int .i64 0),True)
 | some (.slice _),.own id=>match H[id]? with
  | some (.arr _ _ _ _ l)=>(.v (.int .i64 (l.length:Int)),True)
  | some (.ro _ _ _ _ l)=>(.v (.int .i64 (l.length:Int)),True)
  | some (.arrD _ _ m _ _)=>(.v (.int .i64 (m:Int)),True)
  | _=>aN
 | _,_=>aN
def tY (x y:Int):Int:=if y<x then y else x
def Ml (x y:Int):Int:=if y>x then y else x
section
variable {P:Program} {S:Nat→Prop} {μ:Nat→Value} {w:World}
def Px (n:Nat) (hi:Option Value) (h:Nat):Prop:=match hi with | none=>h=n | some v=>∃k,v=.int k h
def N4 (lo:Option Value) (l:Nat):Prop:=match lo with | none=>l=0 | some v=>∃k,v=.int k l
theorem il {is:Bool} {n c l h:Nat} {lo hi:Option Value} (hh:Px n hi h) (hl:N4 lo l) (h1:l≤h) (h2:h≤c) :
  (Instr.sliceBounds is n c lo hi none).run P w=.ok (l,h,c) w:=by
 have sb:∀(k:IntKind) (x y:Nat) (VC:BoundsCode),x≤y→(Instr.sliceBound (.int k (x:Int)) y VC).run P w=.ok x w:=by
  intro k x y VC WQ
  unfold Instr.sliceBound
  simp only[asIntOf,RG,R5,RF]
  rw[RH ⟨by omega,by omega⟩]
  simp
 unfold Instr.sliceBounds
 cases hi with
 | none =>
  simp only[Px]at hh
  subst hh
  cases lo with
  | none =>
   simp only[N4]at hl
   subst hl
   simp[RG]
  | some v =>
   obtain⟨k,rfl⟩:=hl
   simp[RG,sb _ _ _ _ h1]
 | some v =>
  obtain⟨k,rfl⟩:=hh
  cases lo with
  | none =>
   simp only[N4]at hl
   subst hl
   simp[RG,sb _ _ _ _ h2]
  | some v =>
   obtain⟨k,rfl⟩:=hl
   simp[RG,sb _ _ _ _ h2,sb _ _ _ _ h1]
def qE (S:Nat→Prop) (μ:Nat→Value) (w:World):Option D→Option Value→Prop
 | none,none=>True
 | some d,some u=>an S μ w d u
 | _,_=>False
theorem vj {d:D} (h:Cw d=true):∃k n,d=.v (.int k n)∧J6 d=n:=by
 unfold Cw at h
 split at h
 ·exact⟨_,_,rfl,rfl⟩
 ·cases h
theorem CE {lo:Option D} {ul:Option Value} (h:qE S μ w lo ul) (hi:yE lo=true) (h0:0≤pZ lo):N4 ul (pZ lo).toNat:=by
 cases lo with
 | none=>cases ul with
  | none=>simp[N4,pZ]
  | some _=>exact h.elim
 | some d=>cases ul with
  | none=>exact h.elim
  | some u =>
   obtain⟨k,n,rfl,hn⟩:=vj hi
   simp only[pZ]at h0 ⊢
   rw[hn]at h0 ⊢
   rw[bW h]
   exact⟨k,by rw[Te h0]⟩
theorem CF {hi:Option D} {uh:Option Value} {n:Nat} (h:qE S μ w hi uh) (Vc:yE hi=true) (h0:0≤iC n hi):Px n uh (iC n hi).toNat:=by
 cases hi with
 | none=>cases uh with
  | none=>simp[Px,iC]
  | some _=>exact h.elim
 | some d=>cases uh with
  | none=>exact h.elim
  | some u =>
   obtain⟨k,m,rfl,hn⟩:=vj Vc
   simp only[iC]at h0 ⊢
   rw[hn]at h0 ⊢
   rw[bW h]
   exact⟨k,by rw[Te h0]⟩
theorem xn {α:Type} (l:List α) (hi:Option D) (h:iC l.length hi≤l.length):yF l hi=l.take (iC l.length hi).toNat:=by
 cases hi with
 | none=>simp[yF,iC]
 | some d=>rfl
theorem wW {t:TypeId} {x d:D} {lo hi mx:Option D} {p:Prop} {ux:Value} {ul uh um:Option Value} (hx:an S μ w x ux) (hl:qE S μ w lo ul) (hh:qE S μ w hi uh) (hm:qE S μ w mx um)
  (hp:yG P t x lo hi mx=(d,p)) (G':p):∃u,(Instr.sliceAt t ux ul uh um).run P w=.ok u w∧an S μ w d u:=by
 unfold yG at hp
 split at hp
 ·rename_i e sz α enc d' l k1 h' k2 h hu
  split at hp
  ·rename_i hc
   simp only[RA,RY]at hc
   obtain⟨hk,rfl⟩:=hc
   simp only[RI]at hp
   obtain⟨rfl,rfl⟩:=hp
   obtain⟨h0,h1,rfl⟩:=G'
   obtain⟨q,c,rfl,q1,q2,q3,q4⟩:=fJ (bv hx)
   have hul:ul=none:=by cases ul with | none=>rfl | some _=>exact hl.elim
   subst hul
   cases uh with
   | none=>exact hh.elim
   | some vh =>
    cases um with
    | none=>exact hm.elim
    | some vm =>
     have ev:vh=.int k1 h:=by
      have:=bv hh
      cases this
      rfl
     have em:vm=.int k2 h:=by
      have:=bv hm
      cases this
      rfl
     subst ev em
     have sb:∀(k:IntKind) (y:Nat) (VC:BoundsCode),h.toNat≤y→(Instr.sliceBound (.int k h) y VC).run P w=.ok h.toNat w:=by
      intro k y VC WQ
      unfold Instr.sliceBound
      simp only[asIntOf,RG,R5,RF]
      rw[RH ⟨by omega,by omega⟩]
      simp
     have hr:(Instr.sliceBounds true l.length c none (some (.int k1 h)) (some (.int k2 h))).run P w=.ok (0,h.toNat,h.toNat) w:=by
      unfold Instr.sliceBounds
      simp[RG,sb k2 c _ (by omega),sb k1 h.toNat _ (RD _)]
     refine⟨.slice (if h.toNat=0 then q else q.map (·.add (0*aE P e))) h.toNat h.toNat,?_,.capd _ _ _ (p5 ?_ (by rw[RZ];omega) (by omega) ?_ (fun XM=>?_))⟩
     ·unfold Instr.sliceAt
      simp only[RG,Sl hu,RF]
      unfold Instr.slice
      simp only[RG,Sl hu,RF,hr,d9 hk,R5,Nat.sub_zero]
     ·rw[RZ];omega
     ·intro hn
      by_cases hca:h.toNat=0
      ·exact hca
      ·rw[RE hca]at hn
       have:=q3 (by simpa using hn)
       omega
     ·rw[RZ]at XM
      obtain⟨bb,M',us,rfl,r1,r2,r3,r4,r5⟩:=q4 (by omega)
      have UK:∀(i:Nat) (x:α),(l.take h.toNat)[i]?=some x→l[i]?=some x:=by
       intro i x hx
       rw[R8]at hx
       split at hx
       ·exact hx
       ·cases hx
      refine⟨bb,M',us,?_,r1,r2,fun i x hx=>r3 _ x (UK i x hx),fun i x j y hx hy=>r4 _ x j y (UK i x hx) hy,fun i x j y hx hy=>r5 _ x j y (UK i x hx) hy⟩
      rw[RE (by omega)]
      simp[dP]
  ·cases hp;exact G'.elim
 ·cases hp;exact G'.elim
theorem D4:∀{cs:List V} {k:IntKind} {l:List Int},sn cs=some (k,l)→cs=l.map (fun x=>.int k x)
 | [],k,l,h=>by simp[sn]at h
 | [.int k0 n],k,l,h=>by simp[sn]at h;obtain⟨rfl,rfl⟩:=h;rfl
 | .int k0 n::y::r,k,l,h=>by
  unfold sn at h
  ·split at h
   ·rename_i k' l' hr
    split at h
    ·rename_i hk
     have hk:k0=k':=by simpa using hk
     cases h
     have:=D4 hr
     subst hk
     rw[this];rfl
    ·cases h
   ·cases h
 | .bool _::_,_,_,h=>by simp[sn]at h
 | .str _::_,_,_,h=>by simp[sn]at h
 | .sl _ _ _ _::_,_,_,h=>by simp[sn]at h
 | .mp _::_,_,_,h=>by simp[sn]at h
 | .nilf::_,_,_,h=>by simp[sn]at h
 | .nsl::_,_,_,h=>by simp[sn]at h
 | .esl::_,_,_,h=>by simp[sn]at h
theorem yK {t:TypeId} {x d:D} {lo hi mx:Option D} {p:Prop} {ux:Value} {ul uh um:Option Value} (hx:an S μ w x ux) (hl:qE S μ w lo ul) (hh:qE S μ w hi uh) (hm:qE S μ w mx um)
  (hp:Cx P t x lo hi mx=(d,p)) (G':p):∃u,(Instr.sliceAt t ux ul uh um).run P w=.ok u w∧an S μ w d u:=by
 unfold Cx at hp
 split at hp
 ·exact wW hx hl hh hm hp G'
 split at hp
 ·rename_i hc
  simp only[RA]at hc
  obtain⟨⟨c1,c2⟩,c3⟩:=hc
  have hmx:mx=none:=by simpa using c3
  subst hmx
  have hum:um=none:=by cases um with | none=>rfl | some _=>exact hm.elim
  subst hum
  split at hp
  ·rename_i e sz α enc d' l hu
   split at hp
   ·rename_i hc
    simp only[RA,RY]at hc
    obtain⟨hk,rfl⟩:=hc
    simp only[RI]at hp
    obtain⟨rfl,rfl⟩:=hp
    obtain⟨h0,h1,h2⟩:=G'
    obtain⟨q,c,rfl,q1,q2,q3,q4⟩:=fJ (bv hx)
    have hr:=il (P:=P) (w:=w) (is:=true) (c:=c) (CF (n:=l.length) hh c2 (by omega)) (CE hl c1 h0) (by omega) (by omega)
    rw[xn _ _ h2]
    generalize hLo:(pZ lo).toNat=a at *
    generalize hHi:(iC l.length hi).toNat=b at *
    have hab:a≤b:=by omega
    have W0:b≤l.length:=by omega
    refine⟨.slice (if c=a then q else q.map (·.add (a*aE P e))) (b-a) (c-a),?_,.v _ _ (p5 ?_ ?_ (by omega) ?_ (fun XM=>?_))⟩
    ·unfold Instr.sliceAt
     simp only[RG,Sl hu,RF]
     unfold Instr.slice
     simp only[RG,Sl hu,RF,hr,d9 hk,R5]
    ·rw[Sd,RZ];omega
    ·rw[Sd,RZ];omega
    ·intro hn
     by_cases hca:c=a
     ·omega
     ·rw[RE hca]at hn
      have:=q3 (by simpa using hn)
      omega
    ·rw[Sd,RZ]at XM
     obtain⟨bb,M',us,rfl,r1,r2,r3,r4,r5⟩:=q4 (by omega)
     have UK:∀(i:Nat) (x:α),((l.take b).drop a)[i]?=some x→l[a+i]?=some x:=by
      intro i x hx
      rw[SV,R8]at hx
      split at hx
      ·exact hx
      ·cases hx
     refine⟨bb,M'+a*aE P e,fun i j=>us (a+i) j,?_,r1,r2,fun i x hx=>r3 _ x (UK i x hx),fun i x j y hx hy=>?_,fun i x j y hx hy=>r5 _ x j y (UK i x hx) hy⟩
     ·rw[RE (by omega)]
      simp[dP]
     ·have:=r4 (a+i) x j y (UK i x hx) hy
      rw[← this]
      congr 2
      rw[TZ]
      omega
   ·cases hp;exact G'.elim
  ·rename_i s hu
   simp only[RI]at hp
   obtain⟨rfl,rfl⟩:=hp
   obtain⟨h0,h1,h2⟩:=G'
   rw[gJ hx]
   have hr:=il (P:=P) (w:=w) (is:=false) (c:=s.size) (CF (n:=s.size) hh c2 (by omega)) (CE hl c1 h0) (by omega) (by omega)
   refine⟨_,?_,.v _ _ (.str _)⟩
   unfold Instr.sliceAt
   simp only[RG,Sl hu,RF]
   unfold Instr.slice
   simp only[RG,Sl hu,RF,hr,Option.isSome_none,SC,Ti,R5]
  ·rename_i n e cs M' hu
   split at hp
   ·rename_i k l UA
    split at hp
    ·rename_i hc
     simp only[RA,RY,SM]at hc
     obtain⟨⟨⟨⟨hk,Ul⟩,ZA⟩,rfl⟩,hmx⟩:=hc
     simp only[RI]at hp
     obtain⟨rfl,rfl⟩:=hp
     obtain⟨h0,h1,h2⟩:=G'
     have hcs:=D4 UA
     subst hcs
     subst ZA
     obtain⟨b,o,rfl,q2⟩:∃b o,ux=.pointer (some ⟨b,o+0,none⟩)∧an S μ w (.iptr (l.map (fun x=>.int k x)) 0) ux:=by
      cases hx with
      | iptr _ _ b o us g1 g2 g3 g4=>exact⟨b,o,rfl,.iptr _ _ b o us g1 g2 g3 g4⟩
     have hr:=il (P:=P) (w:=w) (is:=false) (c:=l.length) (CF (n:=l.length) hh c2 (by omega)) (CE hl c1 h0) (by omega) (by omega)
     rw[xn _ _ h2]
     generalize hLo:(pZ lo).toNat=a at *
     generalize hHi:(iC l.length hi).toNat=c at *
     have hab:a≤c:=by omega
     have W0:c≤l.length:=by omega
     have hq:∃(b' o':Nat) (us:Nat→Value),(⟨b,o+0,none⟩:Addr)=⟨b',o'+0,none⟩∧S b'∧b'<w.heap.size∧(∀(j:Nat) (y:V),(l.map (fun x=>V.int k x))[j]?=some y→w.cell? ⟨b',o'+j,none⟩=some (us j))∧(∀(j:Nat) (y:V),(l.map (fun x=>V.int k x))[j]?=some y→dM S w y (us j)):=by
      generalize hd:D.iptr (l.map (fun x=>.int k x)) 0=dd at q2
      generalize hv:Value.pointer (some ⟨b,o+0,none⟩)=vv at q2
      cases q2 with
      | iptr YH off' b' o' us g1 g2 g3 g4 =>
       cases hd
       simp only[Value.pointer.injEq,RM]at hv
       exact⟨b',o',us,hv,g1,g2,g3,g4⟩
      | _=>cases hd
     obtain⟨b',o',us,he,g1,g2,g3,g4⟩:=hq
     rw[he]
     refine⟨.slice (some (if l.length=a then ⟨b',o'+0,none⟩else (⟨b',o'+0,none⟩:Addr).add (a*aE P e))) (c-a) (l.length-a),?_,.v _ _ (p5 ?_ ?_ (by omega) (by intro h;cases h) (fun XM=>?_))⟩
     ·unfold Instr.sliceAt
      simp only[RG,Sl hu,RF,Instr.sureAddr,R5,hr,d9 hk]
     ·rw[Sd,RZ];omega
     ·rw[Sd,RZ];omega
     ·rw[Sd,RZ]at XM
      have UK:∀(i:Nat) (x:Int),((l.take c).drop a)[i]?=some x→l[a+i]?=some x:=by
       intro i x hx
       rw[SV,R8]at hx
       split at hx
       ·exact hx
       ·cases hx
      refine⟨b',o'+a,fun i j=>us (a+i),?_,g1,g2,fun i x _=>rfl,fun i x j y hx hy=>?_,fun i x j y hx hy=>?_⟩
      ·rw[RE (by omega),Ul]
       simp[dP]
      ·have hj:j=0∧y=.int k x:=by
        cases j with
        | zero=>exact⟨rfl,by simpa using hy.symm⟩
        | succ j=>simp at hy
       obtain⟨rfl,rfl⟩:=hj
       have:=g3 (a+i) (.int k x) (by rw[R3,UK i x hx];rfl)
       rw[← this]
       congr 2
       omega
      ·have hj:y=.int k x:=by
        cases j with
        | zero=>simpa using hy.symm
        | succ j=>simp at hy
       subst hj
       exact g4 (a+i) _ (by rw[R3,UK i x hx];rfl)
    ·cases hp;exact G'.elim
   ·cases hp;exact G'.elim
  ·cases hp;exact G'.elim
 ·cases hp;exact G'.elim
theorem FX {op:BinOp} {k:IntKind} {a b:Int} {d:D} {p:Prop} (hs:D3 op=false) (hp:Cy op k a b=(d,p)) (G':p) (t:TypeId) :
  ∃u,(binOp op t (.int k a) (.int k b)).run P w=.ok u w∧an S μ w d u:=by
 unfold Cy at hp
 cases op<;>simp only[aN,RI]at hp<;>obtain⟨rfl,rfl⟩:=hp <;>
  first
  | exact G'.elim
  | (refine⟨_,?_,.v _ _ (.int _ _)⟩;simp only[binOp,Op.intArith,Op.intDiv,Op.intBits,ne_eq,not_true_eq_false,Ti,R5];done)
  | (refine⟨_,?_,.v _ _ (.int _ _)⟩;simp only[binOp,Op.intDiv,ne_eq,not_true_eq_false,Ti];rw[RE G'];rfl)
  | (refine⟨_,?_,.v _ _ (.bool _)⟩;simp only[binOp,Op.intCmp,ne_eq,not_true_eq_false,Ti,R5];done)
theorem CG {op:BinOp} {k k':IntKind} {a b:Int} {d:D} {p:Prop} (hp:Cz op k a b=(d,p)) (G':p) (t:TypeId) :
  ∃u,(binOp op t (.int k a) (.int k' b)).run P w=.ok u w∧an S μ w d u:=by
 unfold Cz at hp
 cases op<;>simp only[aN,RI]at hp<;>obtain⟨rfl,rfl⟩:=hp <;>
  first
  | exact G'.elim
  | (refine⟨_,?_,.v _ _ (.int _ _)⟩;simp only[binOp,Op.shift];rw[RE (by omega)];rfl)
theorem Hk {op:BinOp} {a b:ByteArray} {d:D} {p:Prop} (hp:Mh op a b=(d,p)) (G':p) (t:TypeId) :
  ∃u,(binOp op t (.string a) (.string b)).run P w=.ok u w∧an S μ w d u:=by
 unfold Mh at hp
 cases op<;>simp only[aN,RI]at hp<;>obtain⟨rfl,rfl⟩:=hp <;>
  first
  | exact G'.elim
  | (refine⟨_,?_,.v _ _ (.bool _)⟩;simp only[binOp,Op.stringOp];rfl)
  | (refine⟨_,?_,.v _ _ (.str _)⟩;simp only[binOp,Op.stringOp];rw[RE (by omega)];rfl)
theorem ec {op:BinOp} {t:TypeId} {x y:Operand} {a b:Value} (h:∀us,a≠.agg us) (h':a≠.nilIface):(eqGuard op t x y a b).run P w=.ok () w:=by
 unfold eqGuard
 cases a<;>first | exact absurd rfl h' | exact absurd rfl (h _) | (split<;>rfl)
theorem iV {t:TypeId} {cs:List D} {M':Nat} {x:V} (h:(du P t cs M').1=.v x):du P t cs M'=(.v x,True):=by
 unfold du at h ⊢
 split
 ·rename_i hc;rw[RH hc]at h;exact Prod.ext h rfl
 ·rename_i hc;rw[RE hc]at h;cases h
theorem pC {xs ys:List D} {us vs:Array Value} (hx:us.size=xs.length∧∀(j:Nat) (y:D) (u:Value),xs[j]?=some y→us[j]?=some u→an S μ w y u) (hy:vs.size=ys.length∧∀(j:Nat) (y:D) (u:Value),ys[j]?=some y→vs[j]?=some u→an S μ w y u)
  {f:Field} {b:Bool} (h:ue P xs ys f=some b) (d:Nat):f.name ≠ "_" ∧ ∃u v,(part f.type us f.offset).run P w=.ok u w∧(part f.type vs f.offset).run P w=.ok v w∧(Op.equalIn (d+1) f.type u v).run P w=.ok b w:=by
 unfold ue at h
 split at h
 ·rename_i hn
  refine⟨hn,?_⟩
  unfold Hh at h
  split at h
  ·rename_i k0 k a k' c hu h1 h2
   obtain⟨u,Y2,WH⟩:=gR hx.1 hx.2 (iV h1) trivial
   obtain⟨v,Vf,Wy⟩:=gR hy.1 hy.2 (iV h2) trivial
   rw[bW WH]at Y2;rw[bW Wy]at Vf
   split at h
   ·rename_i hk
    have UX:k=k':=by simpa using hk
    subst UX
    cases h
    exact⟨_,_,Y2,Vf,run_equalIn_int w d f.type k k0 a c hu⟩
   ·cases h
  ·rename_i a c hu h1 h2
   obtain⟨u,Y2,WH⟩:=gR hx.1 hx.2 (iV h1) trivial
   obtain⟨v,Vf,Wy⟩:=gR hy.1 hy.2 (iV h2) trivial
   rw[fK WH]at Y2;rw[fK Wy]at Vf
   cases h
   exact⟨_,_,Y2,Vf,run_equalIn_bool' w d f.type a c hu⟩
  ·rename_i a c hu h1 h2
   obtain⟨u,Y2,WH⟩:=gR hx.1 hx.2 (iV h1) trivial
   obtain⟨v,Vf,Wy⟩:=gR hy.1 hy.2 (iV h2) trivial
   rw[gJ WH]at Y2;rw[gJ Wy]at Vf
   cases h
   exact⟨_,_,Y2,Vf,run_equalIn_string w d f.type a c hu⟩
  ·cases h
 ·cases h
theorem mG {xs ys:List D} {us vs:Array Value} (hx:us.size=xs.length∧∀(j:Nat) (y:D) (u:Value),xs[j]?=some y→us[j]?=some u→an S μ w y u) (hy:vs.size=ys.length∧∀(j:Nat) (y:D) (u:Value),ys[j]?=some y→vs[j]?=some u→an S μ w y u) (d:Nat) :
  ∀(fs:List Field) (b:Bool),mE P xs ys fs=some b→(Op.eqFields (d+1) us vs fs).run P w=.ok b w
 | [],b,h=>by cases h;simp[Op.eqFields]
 | [f],b,h=>by
  obtain⟨hn,u,v,h1,h2,h3⟩:=pC hx hy h d
  cases b<;>simp[Op.eqFields,hn,RG,h1,h2,h3]
 | f::g::fs,b,h=>by
  unfold mE at h
  split at h
  ·rename_i a c ha hc
   cases h
   obtain⟨hn,u,v,h1,h2,h3⟩:=pC hx hy ha d
   have ih:=mG hx hy d (g::fs) c hc
   unfold Op.eqFields
   cases a
   ·simp[hn,RG,h1,h2,h3]
   ·simp only[ne_eq,hn,not_false_eq_true,Tj,RG,h1,h2,h3,RF,Bool.not_true,SC,Ti,Tc]
    exact ih
  ·cases h
theorem yL {t:TypeId} (h:vg P t=true):∃e,P.underlying t=some (.slice e):=by
 unfold vg at h
 split at h
 ·exact⟨_,by assumption⟩
 ·cases h
theorem AI {t:TypeId} (h:yJ P t=true):∃a b c,P.underlying t=some (.func a b c):=by
 unfold yJ at h
 split at h
 ·exact⟨_,_,_,by assumption⟩
 ·cases h
theorem AJ {x:D} {ux:Value} {b:Bool} {q:Prop} (hx:an S μ w x ux) (hq:Hi x=some (b,q)) (h:q):∃r n c,ux=.slice r n c∧r.isNone=b:=by
 unfold Hi at hq
 split at hq
 ·cases hq;cases hx;exact⟨_,_,_,rfl,rfl⟩
 ·cases hq;have hx:=bv hx;cases hx;exact⟨_,_,_,rfl,rfl⟩
 ·cases hq;have hx:=bv hx;cases hx;exact⟨_,_,_,rfl,rfl⟩
 ·rename_i sz α enc d l
  cases hq
  obtain⟨p,c,rfl,_,_,_,h4⟩:=fJ (bv hx)
  obtain⟨b,M',us,rfl,_⟩:=h4 (List.length_pos_iff.2 h)
  exact⟨_,_,_,rfl,rfl⟩
 ·cases hq
theorem yM {x:D} {ux:Value} {b:Bool} (hx:an S μ w x ux) (hq:CA x=some b):(b=true∧ux=.nilFunc)∨(b=false∧∃f us vs,ux=.func f us vs):=by
 unfold CA at hq
 split at hq
 ·cases hq;have hx:=bv hx;cases hx;exact .inl ⟨rfl,rfl⟩
 ·cases hq;cases hx;exact .inr ⟨rfl,_,_,_,rfl⟩
 ·cases hq
theorem sr {op:BinOp} {t:TypeId} {b:Bool} {q p:Prop} {d:D} {ux uy:Value} (hp:AH op b q=(d,p)) (G':p) (he:(Op.equal t ux uy).run P w=.ok b w) (hx:∀k n,ux≠.int k n:=by intros;intro h;cases h) (hf:∀k n,ux≠.float k n:=by intros;intro h;cases h)
  (hc:∀k a b,ux≠.complex k a b:=by intros;intro h;cases h) (hs:∀s,ux≠.string s:=by intros;intro h;cases h):∃u,(binOp op t ux uy).run P w=.ok u w∧an S μ w d u:=by
 unfold AH at hp
 split at hp
 ·cases hp
  refine⟨.bool b,?_,.v _ _ (.bool _)⟩
  unfold binOp
  cases ux<;>first | exact absurd rfl (hx _ _) | exact absurd rfl (hf _ _) | exact absurd rfl (hc _ _ _) | exact absurd rfl (hs _) | simp only[RG,he,RF,R5]
 ·cases hp
  refine⟨.bool (!b),?_,.v _ _ (.bool _)⟩
  unfold binOp
  cases ux<;>first | exact absurd rfl (hx _ _) | exact absurd rfl (hf _ _) | exact absurd rfl (hc _ _ _) | exact absurd rfl (hs _) | simp only[RG,he,RF,R5]
 ·cases hp;exact G'.elim
theorem CH {op:BinOp} {t:TypeId} {x y d:D} {p:Prop} {ux uy:Value} (ox oy:Operand) (hx:an S μ w x ux) (hy:an S μ w y uy) (hp:Mi P op t x y=(d,p)) (G':p) :
  ∃u,(do eqGuard op t ox oy ux uy;binOp op t ux uy:Sem Value).run P w=.ok u w∧an S μ w d u:=by
 unfold Mi at hp
 split at hp
 ·rename_i k a k' b
  rw[bW hx,bW hy]
  simp only[RG,ec (P:=P) (w:=w) (a:=.int k a) (fun _ h=>by cases h) (fun h=>by cases h),RF]
  split at hp
  ·exact CG hp G' t
  ·rename_i hs
   split at hp
   ·rename_i hk
    have:k=k':=by simpa using hk
    subst this
    exact FX (by simpa using hs) hp G' t
   ·cases hp;exact G'.elim
 ·rename_i a b
  rw[gJ hx,gJ hy]
  simp only[RG,ec (P:=P) (w:=w) (a:=.string a) (fun _ h=>by cases h) (fun h=>by cases h),RF]
  exact Hk hp G' t
 ·rename_i a b
  rw[fK hx,fK hy]
  simp only[RG,ec (P:=P) (w:=w) (a:=.bool a) (fun _ h=>by cases h) (fun h=>by cases h),RF]
  split at hp
  ·rename_i hu
   have he:(Op.equal t (.bool a) (.bool b)).run P w=.ok (a==b) w:=by
    unfold Op.equal
    rw[show Op.maxDepth=9999+1 from rfl,Op.equalIn]
    simp only[RG,Sl hu,RF,R5]
   cases op<;>simp only[aN,RI]at hp<;>obtain⟨rfl,rfl⟩:=hp <;>
    first
    | exact G'.elim
    | (refine⟨_,?_,.v _ _ (.bool _)⟩;simp only[binOp,RG,he,RF,R5])
  ·cases hp;exact G'.elim
 ·rename_i xs ys
  obtain⟨us,rfl,WR,XN⟩:=fm hx
  obtain⟨vs,rfl,hy1,hy2⟩:=fm hy
  unfold LD at hp
  split at hp
  ·rename_i hc
   simp only[RA,Sj]at hc
   obtain⟨⟨hs,hg⟩,ht⟩:=hc
   have hu:P.underlying t=some (.struct (P.fieldsOf t)):=by
    unfold xm at ht
    unfold Program.fieldsOf
    split at ht
    ·rename_i fs hfs;rw[hfs]
    ·cases ht
   have he:∀b,mE P xs ys (P.fieldsOf t).toList=some b→(Op.equalIn 10000 t (.agg us) (.agg vs)).run P w=.ok b w:=fun b hb=>by
    rw[show(10000:Nat)=9999+1 from rfl,run_equalIn_agg w 9999 t us vs hu hs]
    exact mG ⟨WR,XN⟩ ⟨hy1,hy2⟩ 9998 _ b hb
   simp only[RG,run_eqGuard_agg (P:=P) w op t ox oy us vs hg,RF]
   split at hp
   ·rename_i b hb
    cases hp
    exact⟨_,by rw[run_eql_struct,he b hb,RF],.v _ _ (.bool _)⟩
   ·rename_i b hb
    cases hp
    exact⟨_,by rw[run_neq_struct,he b hb,RF],.v _ _ (.bool _)⟩
   ·cases hp;exact G'.elim
  ·cases hp;exact G'.elim
 ·cases hy
  split at hp
  ·rename_i b q hq
   split at hp
   ·rename_i ht
    obtain⟨e,he⟩:=yL ht
    have hob':q:=by
     unfold AH at hp
     split at hp<;>cases hp<;>first | exact G' | exact G'.elim
    obtain⟨r,n,c,rfl,hr⟩:=AJ hx hq hob'
    simp only[RG,ec (P:=P) (w:=w) (a:=.slice r n c) (fun _ h=>by cases h) (fun h=>by cases h),RF]
    have Zv:(Op.equal t (.slice r n c) (.slice none 0 0)).run P w=.ok b w:=by
     unfold Op.equal
     rw[show Op.maxDepth=9999+1 from rfl,Op.equalIn]
     simp only[RG,Sl he,RF]
     cases r<;>simp at hr<;>subst hr<;>rfl
    exact sr hp G' Zv
   ·cases hp;exact G'.elim
  ·cases hp;exact G'.elim
 ·have hy2:=bv hy
  cases hy2
  split at hp
  ·rename_i b hq
   split at hp
   ·rename_i ht
    obtain⟨e1,e2,e3,he⟩:=AI ht
    have hu:(b=true∧ux=.nilFunc)∨(b=false∧∃f us vs,ux=.func f us vs):=yM hx hq
    have Zv:(Op.equal t ux .nilFunc).run P w=.ok b w:=by
     unfold Op.equal
     rw[show Op.maxDepth=9999+1 from rfl,Op.equalIn]
     simp only[RG,Sl he,RF]
     rcases hu with ⟨rfl,rfl⟩ | ⟨rfl,f,us,vs,rfl⟩<;>rfl
    rw[RG,ec (P:=P) (w:=w) (a:=ux) (fun _ h=>by rcases hu with ⟨_,rfl⟩ | ⟨_,f,us,vs,rfl⟩<;>cases h) (fun h=>by rcases hu with ⟨_,rfl⟩ | ⟨_,f,us,vs,rfl⟩<;>cases h),RF]
    rcases hu with ⟨h1,rfl⟩ | ⟨h1,f,us,vs,rfl⟩
    ·exact sr hp G' Zv
    ·exact sr hp G' Zv
   ·cases hp;exact G'.elim
  ·cases hp;exact G'.elim
 ·cases hp;exact G'.elim
theorem FY {op:UnOp} {x d:D} {p:Prop} {ux:Value} (hx:an S μ w x ux) (hp:PF op x=(d,p)) (G':p) :
  ∃u,(Op.unary op ux).run P w=.ok u w∧an S μ w d u:=by
 unfold PF at hp
 split at hp
 ·cases hp;rw[bW hx];exact⟨_,rfl,.v _ _ (.int _ _)⟩
 ·cases hp;rw[bW hx];exact⟨_,rfl,.v _ _ (.int _ _)⟩
 ·cases hp;rw[fK hx];exact⟨_,rfl,.v _ _ (.bool _)⟩
 ·cases hp;exact G'.elim
theorem AK {src dst:TypeId} {x d:D} {p:Prop} {ux:Value} (hx:an S μ w x ux) (hp:Hj P src dst x=(d,p)) (G':p) :
  ∃u,(convert src dst ux).run P w=.ok u w∧an S μ w d u:=by
 unfold Hj at hp
 split at hp
 ·rename_i hk
  unfold cN at hk
  simp only[RA,Option.isSome_iff_exists]at hk
  obtain⟨_,s,hs⟩:=hk
  split at hp
  ·rename_i k k' n hd
   rw[bW hx]
   split at hp
   ·cases hp;exact G'.elim
   ·cases hp
    refine⟨_,?_,.v _ _ (.int _ _)⟩
    unfold convert
    simp only[RG,Sl hs,Sl hd,RF,Conv.intToInt]
    rfl
  ·rename_i s' hd
   cases hp
   rw[gJ hx]
   refine⟨_,?_,.v _ _ (.str _)⟩
   unfold convert
   simp only[RG,Sl hs,Sl hd,RF]
   rfl
  ·cases hp;exact G'.elim
 ·cases hp;exact G'.elim
theorem CI {t ty:TypeId} {H:List ap} (hH:bp S μ w H) {x d:D} {p:Prop} {ux:Value} (hx:an S μ w x ux) (hp:Mj P t H x=(d,p)) (G':p) :
  ∃u,(Builtin.len_ #[t] ty #[ux]).run P w=.ok u w∧an S μ w d u:=by
 have sl:∀(e:TypeId) (q:Option Addr) (n c:Nat),P.underlying t=some (.slice e)→(Builtin.len_ #[t] ty #[.slice q n c]).run P w=.ok (.int .i64 n) w:=by
  intro e q n c hu
  simp[Builtin.len_,RG,Sl hu,goInt]
 unfold Mj at hp
 split at hp
 ·rename_i s hu
  cases hp
  rw[gJ hx]
  exact⟨_,by simp[Builtin.len_,RG,Sl hu,goInt],.v _ _ (.int _ _)⟩
 ·rename_i n e hu
  cases hp
  exact⟨_,by simp[Builtin.len_,RG,Sl hu,goInt],.v _ _ (.int _ _)⟩
 ·rename_i e sz α enc d' l hu
  cases hp
  obtain⟨q,c,rfl,_⟩:=fJ (bv hx)
  exact⟨_,sl _ _ _ _ hu,.v _ _ (.int _ _)⟩
 ·rename_i e hu
  cases hp
  cases hx
  exact⟨_,sl _ _ _ _ hu,.v _ _ (.int _ _)⟩
 ·rename_i e hu
  cases hp
  have hx:=bv hx
  cases hx
  exact⟨_,sl _ _ _ _ hu,.v _ _ (.int _ _)⟩
 ·rename_i e hu
  cases hp
  have hx:=bv hx
  cases hx
  exact⟨_,sl _ _ _ _ hu,.v _ _ (.int _ _)⟩
 ·rename_i e id hu
  split at hp
  ·rename_i E sz α enc d' l hb
   cases hp
   rw[bX hx]
   obtain⟨q,c,hm,_⟩:=cD (hH.box id _ hb)
   rw[hm]
   exact⟨_,sl _ _ _ _ hu,.v _ _ (.int _ _)⟩
  ·rename_i E sz α enc d' l hb
   cases hp
   rw[bX hx]
   obtain⟨q,c,hm,_⟩:=cD (hH.box id _ hb).ro_arr
   rw[hm]
   exact⟨_,sl _ _ _ _ hu,.v _ _ (.int _ _)⟩
  ·rename_i E sz m gs cell hb
   cases hp
   rw[bX hx]
   obtain⟨q,c,hm,_⟩:=ft (hH.box id _ hb)
   rw[hm]
   exact⟨_,sl _ _ _ _ hu,.v _ _ (.int _ _)⟩
  ·cases hp;exact G'.elim
 ·cases hp;exact G'.elim
end
end Go.Proofs.YtckgpflobhpnpaaGreat
namespace Go.Proofs.YtckgpflobhpnpaaGreat
open Go.RowKit
set_option linter.unusedVariables false
set_option linter.unusedSimpArgs false
def jP (H:List ap):D→Option (List D)
 | .agg cs=>some cs
 | .tup _=>none
 | .junk=>none
 | .own id=>match H[id]? with | some (.arr _ _ _ _ _)=>some [.own id] | some (.ro _ _ _ _ _)=>some [.own id] | some (.mpb _ _ _ _ _)=>some [.own id] | some (.arrD _ _ _ _ _)=>some [.own id] | _=>none
 | d=>some [d]
def fM (cs new:List D) (M':Nat):List D:=cs.take M'++new++cs.drop (M'+new.length)
def gT (H:List ap) (Xi:Nat→Option (Nat×Nat)) (cells:List D):List (Nat×D)→Option (List D)
 | []=>some cells
 | (i,x)::rest=>match Xi i,jP H x with
  | some (M',size),some new=>if Nat.beq new.length size&&Nat.ble (M'+new.length) cells.length then gT H Xi (fM cells new M') rest else none
  | _,_=>none
def i5 (P:Program) (t:TypeId):Option (List D):=((P.info? t).bind (·.zero)).map fun z=>z.cells.toList.map D.ofVal1
def CJ (P:Program) (H:List ap) (t:TypeId) (T6:List (Nat×D)):R1 :=
 match i5 P t,P.underlying t with
 | some z,some (.struct fs)=>if fs.all (fun f=>cN P f.type)then
   match gT H (fun i=>(fs[i]?).map fun f=>(f.offset,aE P f.type)) z T6 with
   | some cs=>(.agg cs,True)
   | none=>aN
  else aN
 | some z,some (.array _ e)=>if cN P e then
   match gT H (fun i=>some (i*aE P e,aE P e)) z T6 with
   | some cs=>(.agg cs,True)
   | none=>aN
  else aN
 | _,_=>aN
def Py (f:Int→Int→Int) (x y:D):R1 :=
 match x,y with
 | .v (.int k a),.v (.int _ b)=>(.v (.int k (f a b)),True)
 | _,_=>aN
def LF (c a b:D):R1 :=
 match c with
 | .v (.bool t)=>(match t with | true=>a | false=>b,True)
 | _=>aN
def N5:D→R1
 | .ptr id i sz M'=>(.ptr id i sz M',True)
 | .iptr cs M'=>(.iptr cs M',True)
 | .fn (.func f) a b=>(.fn (.func f) a b,True)
 | .yld id=>(.yld id,True)
 | _=>aN
def AL (x:D) (i:Nat):R1 :=
 match x with
 | .tup cs=>if Nat.blt i cs.length then (cs.getD i .junk,True)else aN
 | _=>aN
def xo (x y:D):Prop:=∀(S:Nat→Prop) (μ:Nat→Value) (w:World) (u:Value),an S μ w x u→an S μ w y u
def mH {α:Type _} (d:α):List (ByteArray×α)→ByteArray→α
 | [],_=>d
 | (k',x)::r,k=>if k=k' then x else mH d r k
def tr {α:Type _}:List (ByteArray×α)→ByteArray→Bool
 | [],_=>false
 | (k',_)::r,k=>if k=k' then true else tr r k
def xp {α:Type _}:List (ByteArray×α)→ByteArray→α→List (ByteArray×α)
 | [],k,x=>[(k,x)]
 | (k',y)::r,k,x=>if k=k' then (k,x)::r else (k',y)::xp r k x
theorem Re (a b:ByteArray):(a==b)=decide (a=b):=by
 cases a with | mk x=>cases b with | mk y =>
 show(x==y)=_
 by_cases h:x=y
 ·subst h;simp
 ·rw[R6 (by simpa using h)];exact beq_eq_false_iff_ne.2 h
theorem LG (a b:ByteArray):Instr.sameNow .string (.string a) (.string b)=some (decide (a=b)):=by
 show some (a==b)=_
 rw[Re]
theorem LH {α:Type _} {R:α→Value→Prop} (d:α) (k:ByteArray):∀(l:List (ByteArray×α)) (arr:List MapEntry) (n:Nat),arr.length=l.length→(∀(i:Nat) (k':ByteArray) (x:α),l[i]?=some (k',x)→∃e,arr[i]?=some e∧e.key=.string k'∧R x e.val) →
  (tr l k=false∧mH d l k=d∧Instr.findNow .string (.string k) arr n=some none∧∀x,xp l k x=l++[(k,x)]) ∨
  (tr l k=true∧∃(i:Nat) (e:MapEntry) (y:α),l[i]?=some (k,y)∧arr[i]?=some e∧e.key=.string k∧R y e.val∧Instr.findNow .string (.string k) arr n=some (some (n+i,e.val))∧mH d l k=y∧∀x,xp l k x=l.set i (k,x))
 | [],arr,n,hl,_=>by
  have:arr=[]:=List.length_eq_zero_iff.1 hl
  subst this
  exact .inl ⟨rfl,rfl,by simp[Instr.findNow],fun x=>rfl⟩
 | (k',x)::r,[],n,hl,_=>by simp at hl
 | (k',x)::r,a::arr,n,hl,h=>by
  obtain⟨e,he,hk,hr⟩:=h 0 k' x rfl
  simp only[TG,RM]at he
  subst he
  by_cases Xt:k=k'
  ·subst Xt
   refine .inr ⟨by rw[tr,RH rfl],0,a,x,rfl,rfl,hk,hr,?_,by rw[mH,RH rfl],fun y=>by rw[xp,RH rfl];rfl⟩
   unfold Instr.findNow
   rw[hk,LG,RX rfl]
   rfl
  ·have hf:Instr.findNow .string (.string k) (a::arr) n=Instr.findNow .string (.string k) arr (n+1):=by
    conv=>lhs;unfold Instr.findNow
    rw[hk,LG,R6 Xt]
   rw[hf,tr,RE Xt,mH,RE Xt]
   rcases LH d k r arr (n+1) (by simpa using hl) (fun i k' x hx=>by simpa using h (i+1) k' x (by simpa using hx))with ⟨h1,h0,h2,h3⟩ | ⟨h1,i,e,y,h2,h3,h4,h5,h6,h7,h8⟩
   ·exact .inl ⟨h1,h0,h2,fun y=>by rw[xp,RE Xt,h3];rfl⟩
   ·exact .inr ⟨h1,i+1,e,y,by simpa using h2,by simpa using h3,h4,h5,by rw[h6,show n+1+i=n+(i+1) by omega],h7,fun y=>by rw[xp,RE Xt,h8];rfl⟩
def xq (P:Program) (t:TypeId):Option D:=((P.info? t).bind (·.zero)).map D.ofVal
def yN (P:Program) (H:List ap) (t:TypeId) (x ix:D) (c:Bool):R1 :=
 match P.underlying t,x,ix with
 | some (.map K E),.own id,.v (.str k)=>match P.underlying K,xq P E,H[id]? with
  | some .string,some z,some (.mpb t' ag enc d l) =>
   if Nat.beq t t' then (if c then .tup [pW ag (enc (mH d l k)),.v (.bool (tr l k))]else pW ag (enc (mH d l k)),xo z (pW ag (enc d)))else aN
  | _,_,_=>aN
 | some (.map K E),.v (.sm ag enc d l),.v (.str k)=>match P.underlying K,xq P E with
  | some .string,some z=>(if c then .tup [pW ag (enc (mH d l k)),.v (.bool (tr l k))]else pW ag (enc (mH d l k)),xo z (pW ag (enc d))∧(ag=false→∀p∈l,(enc p.2).length=1))
  | _,_=>aN
 | _,_,_=>aN
def gg (P:Program) (H:List ap) (ρ:Operand→D) (op:Op):R1 :=
 match op with
 | .move x=>(ρ x,True)
 | .assign x=>(ρ x,True)
 | .pick c a b=>LF (ρ c) (ρ a) (ρ b)
 | .load t a=>D2 P t H (ρ a)
 | .nilCheck x=>N5 (ρ x)
 | .binOp op t x y _=>Mi P op t (ρ x) (ρ y)
 | .unOp op _ x=>PF op (ρ x)
 | .convert src dst x=>Hj P src dst (ρ x)
 | .makeFunc fn first cap=>(.fn fn (first.toList.map ρ) (cap.toList.map ρ),True)
 | .slice t x lo hi mx=>Cx P t (ρ x) (lo.map ρ) (hi.map ρ) (mx.map ρ)
 | .fieldAddr s x f=>pX P s (ρ x) f
 | .field t x f=>Cu P t (ρ x) f
 | .indexAddr t x i=>pY P t H (ρ x) (ρ i)
 | .index t x i=>Cv P t (ρ x) (ρ i)
 | .extract x i=>AL (ρ x) i
 | .build t T6=>CJ P H t (T6.toList.map fun p=>(p.1,ρ p.2))
 | .lookup t x ix c=>yN P H t (ρ x) (ρ ix) c
 | .call c=>match c.callee with
  | .builtin .len=>match c.args.toList,c.argTypes.toList with
   | [x],[t]=>Mj P t H (ρ x)
   | _,_=>aN
  | .builtin .min=>match c.args.toList with
   | [x,y]=>Py tY (ρ x) (ρ y)
   | _=>aN
  | .builtin .max=>match c.args.toList with
   | [x,y]=>Py Ml (ρ x) (ρ y)
   | _=>aN
  | _=>aN
 | _=>aN
section
variable {P:Program} {S:Nat→Prop} {μ:Nat→Value} {w:World}
theorem dM.cells {x:V} {u:Value} (h:dM S w x u):u.cells=#[u]:=by cases h<;>rfl
theorem iG {H:List ap} (hH:bp S μ w H) {d:D} {u:Value} {cs:List D} (hd:an S μ w d u) (hc:jP H d=some cs) :
  u.cells.size=cs.length∧∀(j:Nat) (y:D) (z:Value),cs[j]?=some y→u.cells[j]?=some z→an S μ w y z:=by
 have one:∀(d:D) (u:Value),an S μ w d u→u.cells=#[u]→cs=[d]→u.cells.size=cs.length∧∀(j:Nat) (y:D) (z:Value),cs[j]?=some y→u.cells[j]?=some z→an S μ w y z:=by
  rintro d u hd hu rfl
  rw[hu]
  refine⟨rfl,fun j y z hy hz=>?_⟩
  cases j with
  | zero=>simp at hy hz;subst hy hz;exact hd
  | succ j=>simp at hy
 unfold jP at hc
 split at hc
 ·cases hc
  obtain⟨us,rfl,h1,h2⟩:=fm hd
  exact⟨h1,h2⟩
 ·cases hc
 ·cases hc
 ·split at hc
  ·rename_i E sz α enc d' l hb
   cases hc
   obtain⟨q,c,hm,_⟩:=cD (hH.box _ _ hb)
   have hu:=bX hd
   exact one _ _ hd (by rw[hu,hm];rfl) rfl
  ·rename_i E sz α enc d' l hb
   cases hc
   obtain⟨q,c,hm,_⟩:=cD (hH.box _ _ hb).ro_arr
   have hu:=bX hd
   exact one _ _ hd (by rw[hu,hm];rfl) rfl
  ·rename_i t ag α enc d' l hb
   cases hc
   obtain⟨b,arr,clock,hm,_⟩:=hH.box _ _ hb
   have hu:=bX hd
   exact one _ _ hd (by rw[hu,hm];rfl) rfl
  ·rename_i E sz m gs cell hb
   cases hc
   obtain⟨q,c,hm,_⟩:=ft (hH.box _ _ hb)
   have hu:=bX hd
   exact one _ _ hd (by rw[hu,hm];rfl) rfl
  ·cases hc
 ·rename_i h1 h2 h3 h4
  cases hc
  refine one _ _ hd ?_ rfl
  cases hd with
  | v x u h=>exact h.cells
  | nils=>rfl
  | own id=>exact absurd rfl (h4 id)
  | ptr=>rfl
  | iptr=>rfl
  | agg cs us _ _=>exact absurd rfl (h1 cs)
  | tup cs us _ _=>exact absurd rfl (h2 cs)
  | fn=>rfl
  | yld=>rfl
  | capd=>rfl
  | gr g r us u _ _ h=>cases u<;>first | rfl | cases h
  | junk u=>exact absurd rfl h3
def aM (S:Nat→Prop) (μ:Nat→Value) (w:World) (cs:List D) (us:Array Value):Prop :=
 us.size=cs.length∧∀(j:Nat) (y:D) (z:Value),cs[j]?=some y→us[j]?=some z→an S μ w y z
theorem J7 (new:Array Value) (cells:Array Value) (M':Nat):∀(n:Nat),n≤new.size→M'+new.size≤cells.size →
  ((new.toList.zipIdx.take n).foldl (fun cs (p:Value×Nat)=>cs.setIfInBounds (M'+p.2) p.1) cells).size=cells.size ∧
  ∀j,((new.toList.zipIdx.take n).foldl (fun cs (p:Value×Nat)=>cs.setIfInBounds (M'+p.2) p.1) cells)[j]?=if M'≤j∧j<M'+n then new[j-M']? else cells[j]?:=by
 intro n
 induction n with
 | zero=>intro _ _;exact⟨by simp,fun j=>by rw[RE (by omega)];simp⟩
 | succ n ih =>
  intro hn ho
  obtain⟨h1,h2⟩:=ih (by omega) ho
  have ht:new.toList.zipIdx.take (n+1)=new.toList.zipIdx.take n++[(new[n]'(by omega),n)]:=by
   rw[List.take_succ_eq_append_getElem (by simp;omega)]
   congr 1
   simp
  rw[ht,SS]
  simp only[List.foldl_cons,List.foldl_nil]
  refine⟨by rw[Array.size_setIfInBounds];exact h1,fun j=>?_⟩
  by_cases hj:j=M'+n
  ·subst hj
   rw[Array.getElem?_setIfInBounds_self_of_lt (by omega),RH (by omega),show M'+n-M'=n from by omega]
   simp
  ·rw[SE (by omega),h2 j]
   by_cases hc:M'≤j∧j<M'+n
   ·rw[RH hc,RH (by omega)]
   ·rw[RE hc,RE (by omega)]
theorem AM {cs new:List D} {us vs:Array Value} {M':Nat} (h:aM S μ w cs us) (hn:aM S μ w new vs) (ho:M'+new.length≤cs.length) :
  aM S μ w (fM cs new M') (vs.zipIdx.foldl (fun cs (c,j)=>cs.setIfInBounds (M'+j) c) us):=by
 have e:vs.zipIdx.foldl (fun cs (c,j)=>cs.setIfInBounds (M'+j) c) us=(vs.toList.zipIdx.take vs.size).foldl (fun cs (p:Value×Nat)=>cs.setIfInBounds (M'+p.2) p.1) us:=by
  rw[← Array.foldl_toList,Array.toList_zipIdx,Th (by simp)]
 obtain⟨h1,h2⟩:=J7 vs us M' vs.size (RD _) (by rw[hn.1,h.1];exact ho)
 rw[← e]at h1 h2
 refine⟨by rw[h1,h.1];simp[fM];omega,fun j y z hy hz=>?_⟩
 rw[h2 j]at hz
 unfold fM at hy
 by_cases hc:M'≤j∧j<M'+vs.size
 ·rw[RH hc]at hz
  refine hn.2 (j-M') y z ?_ hz
  rw[RP (by simp;have:=hn.1;omega),RT (by simp;omega)]at hy
  rw[RZ,TU (by omega)]at hy
  exact hy
 ·rw[RE hc]at hz
  refine h.2 j y z ?_ hz
  have hs:=hn.1
  by_cases hj:j<M'
  ·rw[RP (by simp;omega),RP (by simp;omega),R8,RH hj]at hy
   exact hy
  ·rw[RT (by simp;omega),SV]at hy
   simp only[RV,RZ]at hy
   rw[show M'+new.length+(j-(min M' cs.length+new.length))=j from by omega]at hy
   exact hy
theorem fA {H:List ap} (hH:bp S μ w H) {Xi:Nat→Option (Nat×Nat)}:∀(T6:List (Nat×D)) (Ue:List (Nat×Value)) (cells Wt:List D) (us:Array Value),
  T6.map (·.1)=Ue.map (·.1)→(∀(j:Nat) (x:Nat×D) (u:Nat×Value),T6[j]?=some x→Ue[j]?=some u→an S μ w x.2 u.2) →
  aM S μ w cells us→gT H Xi cells T6=some Wt→∃vs,Instr.fill Xi us Ue=some vs∧aM S μ w Wt vs
 | [],[],cells,Wt,us,_,_,hc,hf=>by
  simp only[gT,RM]at hf
  subst hf
  exact⟨us,rfl,hc⟩
 | [],_::_,_,_,_,h,_,_,_=>by simp at h
 | _::_,[],_,_,_,h,_,_,_=>by simp at h
 | (i,x)::T6,(i',u)::Ue,cells,Wt,us,hi,hr,hc,hf=>by
  simp only[SJ,SN]at hi
  obtain⟨rfl,hi⟩:=hi
  unfold gT at hf
  split at hf
  ·rename_i M' size new hp hn
   split at hf
   ·rename_i UB
    simp only[RA,RY,SM]at UB
    obtain⟨hl,ho⟩:=UB
    have US:=iG hH (hr 0 _ _ rfl rfl) hn
    obtain⟨vs,h1,h2⟩:=fA hH T6 Ue _ Wt _ hi (fun j x u hx hu=>hr (j+1) x u (by simpa using hx) (by simpa using hu)) (AM hc US ho) hf
    refine⟨vs,?_,h2⟩
    unfold Instr.fill
    rw[hp]
    dsimp only
    have h9:u.cells.size=new.length:=US.1
    have h8:us.size=cells.length:=hc.1
    rw[RE (by simp only[Sh,Sy];omega)]
    exact h1
   ·cases hf
  ·cases hf
theorem gU {t:TypeId} {z:List D} (h:i5 P t=some z):∃v,(zeroValue t).run P w=.ok v w∧aM S μ w z v.cells:=by
 unfold i5 at h
 cases hi:P.info? t with
 | none=>simp[hi]at h
 | some i =>
  cases hz:i.zero with
  | none=>simp[hi,hz]at h
  | some v =>
   simp only[hi,hz,Tn,Sr,RM]at h
   subst h
   refine⟨v,by simp[zeroValue,typeInfo,hi,hz,RG],by simp,fun j y u hy hu=>?_⟩
   simp only[R3,Si,hu,Sr,RM]at hy
   subst hy
   exact an.ofVal1 S μ w u
theorem mr:∀(l:List Field),l.all (fun f=>cN P f.type)=true→(l.mapM (fun f=>do pure (f.offset,← sizeOf f.type):Field→Sem (Nat×Nat))).run P w=.ok (l.map fun f=>(f.offset,aE P f.type)) w
 | [],_=>rfl
 | f::l,h=>by
  simp only[TD,RA]at h
  have:=mr l h.2
  simp only[List.mapM_cons,RG,d9 h.1,RF,R5,this,SJ]
theorem yO {H:List ap} (hH:bp S μ w H) {t:TypeId} {T6:List (Nat×D)} {Ue:List (Nat×Value)} {d:D} {p:Prop} (h1:T6.map (·.1)=Ue.map (·.1))
  (h2:∀(j:Nat) (x:Nat×D) (u:Nat×Value),T6[j]?=some x→Ue[j]?=some u→an S μ w x.2 u.2) (hp:CJ P H t T6=(d,p)) (G':p) :
  ∃u,(Instr.build t Ue.toArray).run P w=.ok u w∧an S μ w d u:=by
 unfold CJ at hp
 split at hp
 ·rename_i z fs hz hu
  split at hp
  ·rename_i hall
   split at hp
   ·rename_i cs hf
    cases hp
    obtain⟨v,hv,hr⟩:=gU (S:=S) (μ:=μ) (w:=w) hz
    obtain⟨vs,h3,h4⟩:=fA hH T6 Ue z cs v.cells h1 h2 hr hf
    refine⟨.agg vs,?_,.agg _ _ h4.1 h4.2⟩
    have hall':fs.toList.all (fun f=>cN P f.type)=true:=by simpa using hall
    have hm:=mr (P:=P) (w:=w) fs.toList hall'
    have hm2:(fs.mapM (fun f=>do pure (f.offset,← sizeOf f.type):Field→Sem (Nat×Nat))).run P w=.ok (fs.toList.map fun f=>(f.offset,aE P f.type)).toArray w:=by
     rw[Array.mapM_eq_mapM_toList]
     have hb:∀(s:Sem (List (Nat×Nat))) (r:List (Nat×Nat)),s.run P w=.ok r w→((s.bind (Sem.pure ∘ List.toArray)):Sem (Array (Nat×Nat))).run P w=.ok r.toArray w:=by
      intro s r h
      show Sem.run P (s >>= (Sem.pure ∘ List.toArray)) w=_
      rw[RG,h]
      rfl
     exact hb _ _ hm
    unfold Instr.build
    simp only[RG,hv,Sl hu,RF,hm2]
    have Xf:(fun (i:Nat)=>((fs.toList.map fun (f:Field)=>(f.offset,aE P f.type)).toArray)[i]?)=fun (i:Nat)=>(fs[i]?).map fun (f:Field)=>(f.offset,aE P f.type):=by
     funext i
     simp
    rw[Xf,h3]
    rfl
   ·cases hp;exact G'.elim
  ·cases hp;exact G'.elim
 ·rename_i z n e hz hu
  split at hp
  ·rename_i hk
   split at hp
   ·rename_i cs hf
    cases hp
    obtain⟨v,hv,hr⟩:=gU (S:=S) (μ:=μ) (w:=w) hz
    obtain⟨vs,h3,h4⟩:=fA hH T6 Ue z cs v.cells h1 h2 hr hf
    refine⟨.agg vs,?_,.agg _ _ h4.1 h4.2⟩
    unfold Instr.build
    simp only[RG,hv,Sl hu,RF,d9 hk]
    rw[h3]
    rfl
   ·cases hp;exact G'.elim
  ·cases hp;exact G'.elim
 ·cases hp;exact G'.elim
theorem ts {w:World} {t K E:TypeId} {b clock:Nat} {arr:Array MapEntry} {k:ByteArray} (ht:P.underlying t=some (.map K E)) (hK:P.underlying K=some .string) (hb:w.heap[b]?=some (.map arr clock)) {r:Option (Nat×Value)} (hf:Instr.findNow .string (.string k) arr.toList 0=some r) {z:Value} (hz:r=none→(zeroValue E).run P w=.ok z w) (c:Bool) :
  (Instr.lookup t (.map (some b)) (.string k) c).run P w=.ok (if c then .tuple #[match r with | some (_,v)=>v | none=>z,.bool r.isSome]else match r with | some (_,v)=>v | none=>z) w:=by
 have hu:(underlying t).run P w=.ok (.map K E) w:=by simp[underlying,ht,RG,Sem.run]
 have WH:(underlying K).run P w=.ok .string w:=by simp[underlying,hK,RG,Sem.run]
 have hg:(getObj b).run P w=.ok (.map arr clock) w:=by simp[getObj,Sem.run,hb]
 have hc:(Instr.checkKey arr.isEmpty 10000 K (.string k)).run P w=.ok () w:=by
  rw[show(10000:Nat)=9999+1 from rfl]
  unfold Instr.checkKey
  simp[RG,WH]
 have hk:(Instr.findKey K (.string k) arr.toList).run P w=.ok r w:=by
  simp[Instr.findKey,RG,WH,hf]
 cases r with
 | some q =>
  obtain⟨i,v⟩:=q
  cases c<;>simp[Instr.lookup,RG,hu,hg,hc,hk]
 | none =>
  cases c<;>simp[Instr.lookup,RG,hu,hg,hc,hk,hz rfl]
theorem FZ {ag:Bool} {α:Type} {enc:α→List V} {l:List (ByteArray×α)} {arr:Array MapEntry} (h:D1 S μ w ag enc l arr):arr.toList.length=l.length∧∀(i:Nat) (k':ByteArray) (x:α),l[i]?=some (k',x)→∃e,arr.toList[i]?=some e∧e.key=.string k'∧((ag=false→(enc x).length=1)∧an S μ w (pW ag (enc x)) e.val) :=
 ⟨by simpa using h.1,fun i k' x hx=>by
  obtain⟨e,h1,h2,h3⟩:=h.2 i k' x hx
  exact⟨e,by simpa using h1,h2,h3⟩⟩
theorem F0 {E:TypeId} {z:D} (hz:xq P E=some z):∃v,(zeroValue E).run P w=.ok v w∧an S μ w z v:=by
 unfold xq at hz
 cases hi:P.info? E with
 | none=>simp[hi]at hz
 | some i =>
  cases hv:i.zero with
  | none=>simp[hi,hv]at hz
  | some v =>
   simp only[hi,hv,Tn,Sr,RM]at hz
   refine⟨v,?_,hz ▸ an.ofVal S μ w v⟩
   simp[zeroValue,typeInfo,hi,hv,RG,Sem.run]
theorem Hl {ag:Bool} {α:Type} {enc:α→List V} {l:List (ByteArray×α)} {arr:Array MapEntry} {us:Nat→Nat→Value} (h4:arr.size=l.length) (h5:∀(i:Nat) (k:ByteArray) (x:α),l[i]?=some (k,x)→∃e,arr[i]?=some e∧e.key=.string k∧D0 ag (enc x).length e.val (us i)) (h6:∀(i:Nat) (k:ByteArray) (x:α) (j:Nat) (y:V),l[i]?=some (k,x)→(enc x)[j]?=some y→dM S w y (us i j)) (h7:ag=false→∀p∈l,(enc p.2).length=1):D1 S μ w ag enc l arr:=by
 refine⟨h4,fun i k x hx=>?_⟩
 obtain⟨e,e1,e2,e3⟩:=h5 i k x hx
 refine⟨e,e1,e2,fun ha=>h7 ha _ (Sf hx),?_⟩
 unfold D0 at e3
 cases ag
 ·simp only[SC,Ti]at e3
  have hl:=e3.1
  match hq:enc x,hl with
  | [y],_ =>
   rw[e3.2]
   exact .v _ _ (h6 i k x 0 y hx (by rw[hq];rfl))
 ·simp only[Tj]at e3
  obtain⟨a,ha,hs,hg⟩:=e3
  rw[ha]
  show an S μ w (.agg ((enc x).map D.v)) _
  refine .agg _ _ (by rw[RJ];exact hs) (fun j y u hy hu=>?_)
  rw[R3]at hy
  cases hq:(enc x)[j]? with
  | none=>rw[hq]at hy;cases hy
  | some v =>
   rw[hq]at hy
   cases hy
   have:=hg j (Rz.1 hq).1
   rw[this]at hu
   cases hu
   exact .v _ _ (h6 i k x j v hx hq)
theorem D5 {t K E:TypeId} {b clock:Nat} {arr:Array MapEntry} {ag:Bool} {α:Type} {enc:α→List V} {d0:α} {l:List (ByteArray×α)} {k:ByteArray} {c:Bool} {z:D} (hu:P.underlying t=some (.map K E)) (hK:P.underlying K=some .string) (hz:xq P E=some z) (hb:w.heap[b]?=some (.map arr clock)) (Y3:D1 S μ w ag enc l arr) (G':xo z (pW ag (enc d0))) :
  ∃u,(Instr.lookup t (.map (some b)) (.string k) c).run P w=.ok u w∧an S μ w (if c then .tup [pW ag (enc (mH d0 l k)),.v (.bool (tr l k))]else pW ag (enc (mH d0 l k))) u:=by
 obtain⟨m1,m2⟩:=FZ Y3
 have hzv:∃v,(zeroValue E).run P w=.ok v w∧an S μ w z v:=by
  unfold xq at hz
  cases hi:P.info? E with
  | none=>simp[hi]at hz
  | some i =>
   cases hv:i.zero with
   | none=>simp[hi,hv]at hz
   | some v =>
    simp only[hi,hv,Tn,Sr,RM]at hz
    refine⟨v,?_,hz ▸ an.ofVal S μ w v⟩
    simp[zeroValue,typeInfo,hi,hv,RG,Sem.run]
 obtain⟨zv,hz1,hz2⟩:=hzv
 rcases LH (R:=fun x v=>(ag=false→(enc x).length=1)∧an S μ w (pW ag (enc x)) v) d0 k l arr.toList 0 m1 m2 with ⟨h1,h0,h2,h3⟩ | ⟨h1,i,e,y,h2,h3,h4,h5,h6,h7,h8⟩
 ·have hr:=ts (P:=P) hu hK hb h2 (z:=zv) (fun _=>hz1) c
  refine⟨_,hr,?_⟩
  rw[h0,h1]
  have hd:=G' S μ w zv hz2
  cases c
  ·exact hd
  ·refine .tup _ _ rfl (fun j y u hy hu=>?_)
   match j,hy,hu with
   | 0,hy,hu=>cases hy;cases hu;exact hd
   | 1,hy,hu=>cases hy;cases hu;exact .v _ _ (.bool _)
   | j+2,hy,hu=>simp at hy
 ·have hr:=ts (P:=P) hu hK hb h6 (z:=undef) (fun h=>by cases h) c
  refine⟨_,hr,?_⟩
  rw[h7,h1]
  cases c
  ·exact h5.2
  ·refine .tup _ _ rfl (fun j y u hy hu=>?_)
   match j,hy,hu with
   | 0,hy,hu=>cases hy;cases hu;exact h5.2
   | 1,hy,hu=>cases hy;cases hu;exact .v _ _ (.bool _)
   | j+2,hy,hu=>simp at hy
theorem wX {H:List ap} (hH:bp S μ w H) {t:TypeId} {x ix:D} {ux ui:Value} {c:Bool} {d:D} {p:Prop} (hx:an S μ w x ux) (hi:an S μ w ix ui) (hp:yN P H t x ix c=(d,p)) (G':p) :
  ∃u,(Instr.lookup t ux ui c).run P w=.ok u w∧an S μ w d u:=by
 unfold yN at hp
 split at hp
 ·rename_i K E id k hu
  split at hp
  ·rename_i z t' ag α enc d0 l hK hz N'
   split at hp
   ·cases hp
    have e1:=bX hx
    have e2:=gJ hi
    subst e1 e2
    obtain⟨b,arr,clock,hm,hb,Y3⟩:=hH.box id _ N'
    rw[hm]
    exact D5 hu hK hz hb Y3 G'
   ·cases hp;exact G'.elim
  ·cases hp;exact G'.elim
 ·rename_i K E ag α enc d0 l k hu
  split at hp
  ·rename_i z hK hz
   cases hp
   have e2:=gJ hi
   subst e2
   have hr:=bv hx
   cases hr with
   | smn =>
    obtain⟨zv,hz1,hz2⟩:=F0 (P:=P) (S:=S) (μ:=μ) (w:=w) hz
    have Y2:(underlying t).run P w=.ok (.map K E) w:=by simp[underlying,hu,RG,Sem.run]
    have WH:(underlying K).run P w=.ok .string w:=by simp[underlying,hK,RG,Sem.run]
    have hc:(Instr.checkKey true 10000 K (.string k)).run P w=.ok () w:=by
     rw[show(10000:Nat)=9999+1 from rfl]
     unfold Instr.checkKey
     simp[RG,WH]
    have hf:(Instr.findKey K (.string k) ([]:List MapEntry)).run P w=.ok none w:=by simp[Instr.findKey,RG,WH,Instr.findNow]
    have hd:=G'.1 S μ w zv hz2
    cases c
    ·exact⟨zv,by simp[Instr.lookup,RG,Y2,hc,hf,hz1],hd⟩
    ·refine⟨.tuple #[zv,.bool false],by simp[Instr.lookup,RG,Y2,hc,hf,hz1],.tup _ _ rfl (fun j y u hy hu=>?_)⟩
     match j,hy,hu with
     | 0,hy,hu=>cases hy;cases hu;exact hd
     | 1,hy,hu=>cases hy;cases hu;exact .v _ _ (.bool _)
     | j+2,hy,hu=>simp at hy
   | sm _ _ _ _ b clock arr us h1 h2 h3 h4 h5 h6 =>
    exact D5 hu hK hz h3 (Hl h4 h5 h6 G'.2) G'.1
  ·cases hp;exact G'.elim
 ·cases hp;exact G'.elim
theorem iH {H:List ap} (hH:bp S μ w H) {ρ:Operand→D} {ρ':Operand→Value} (hρ:∀x,an S μ w (ρ x) (ρ' x)) {o:Oper} {d:D} {p:Prop} (hp:gg P H ρ o.op=(d,p)) (G':p) :
  ∃u,(execOp ρ' o).run P w=.ok (.value u) w∧an S μ w d u:=by
 have hv:∀(s:Sem Value) (u:Value),s.run P w=.ok u w→(do pure (.value (← s)):Sem Next).run P w=.ok (.value u) w:=by
  intro s u h
  simp only[RG,h,RF,R5]
 have hO:∀x:Option Operand,qE S μ w (x.map ρ) (x.map ρ'):=by
  intro x
  cases x with
  | none=>trivial
  | some x=>exact hρ x
 unfold gg at hp
 unfold execOp
 generalize ho:o.op=op at *
 cases op<;>(try simp only at hp)<;>(try (simp only[aN,RI]at hp;obtain⟨_,rfl⟩:=hp;exact G'.elim))
 case move x=>cases hp;exact⟨_,rfl,hρ x⟩
 case assign x=>cases hp;exact⟨_,rfl,hρ x⟩
 case pick c a b =>
  unfold LF at hp
  split at hp
  ·rename_i t hc
   have hb:=fK (hc ▸ hρ c)
   cases t<;>cases hp
   ·exact⟨ρ' b,by simp only[RG,hb,asBool,R5,RF];rfl,hρ b⟩
   ·exact⟨ρ' a,by simp only[RG,hb,asBool,R5,RF];rfl,hρ a⟩
  ·cases hp;exact G'.elim
 case load t a =>
  obtain⟨u,h1,h2⟩:=tq hH (hρ a) hp G'
  exact⟨u,hv _ _ h1,h2⟩
 case nilCheck x =>
  have hx:=hρ x
  dsimp only
  unfold N5 at hp
  split at hp
  ·rename_i hq
   cases hp
   rw[hq]at hx
   obtain⟨b,hb,e⟩:=oe hx
   rw[e]at hx ⊢
   exact⟨_,rfl,hx⟩
  ·rename_i hq
   cases hp
   rw[hq]at hx
   obtain⟨b,o',e,_⟩:=ve hx
   rw[e]at hx ⊢
   exact⟨_,rfl,hx⟩
  ·rename_i f a b hq
   cases hp
   rw[hq]at hx
   generalize ρ' x=u at *
   cases hx with
   | fn _ _ _ us vs h1 h2 h3 h4=>exact⟨_,rfl,.fn _ _ _ us vs h1 h2 h3 h4⟩
  ·rename_i id hq
   cases hp
   rw[hq]at hx
   generalize ρ' x=u at *
   cases hx with
   | yld _ l h1=>exact⟨_,rfl,.yld _ l h1⟩
  ·cases hp;exact G'.elim
 case binOp op t x y yt =>
  obtain⟨u,h1,h2⟩:=CH x y (hρ x) (hρ y) hp G'
  exact⟨u,hv _ _ h1,h2⟩
 case unOp op t x =>
  obtain⟨u,h1,h2⟩:=FY (P:=P) (hρ x) hp G'
  exact⟨u,hv _ _ h1,h2⟩
 case convert src dst x =>
  obtain⟨u,h1,h2⟩:=AK (hρ x) hp G'
  exact⟨u,hv _ _ h1,h2⟩
 case makeFunc fn first cap =>
  cases hp
  refine⟨_,hv _ _ rfl,.fn _ _ _ _ _ (by simp) (fun j y u hy hu=>?_) (by simp) (fun j y u hy hu=>?_)⟩
  ·simp only[R3,Si,SP]at hy hu
   cases hj:first[j]? with
   | none=>rw[hj]at hy;cases hy
   | some x=>rw[hj]at hy hu;simp at hy hu;subst hy hu;exact hρ x
  ·simp only[R3,Si,SP]at hy hu
   cases hj:cap[j]? with
   | none=>rw[hj]at hy;cases hy
   | some x=>rw[hj]at hy hu;simp at hy hu;subst hy hu;exact hρ x
 case slice t x lo hi mx =>
  obtain⟨u,h1,h2⟩:=yK (hρ x) (hO lo) (hO hi) (hO mx) hp G'
  exact⟨u,hv _ _ h1,h2⟩
 case fieldAddr s x f =>
  obtain⟨u,h1,h2⟩:=so (hρ x) hp G'
  exact⟨u,hv _ _ h1,h2⟩
 case field t x f =>
  obtain⟨u,h1,h2⟩:=yH (hρ x) hp G'
  exact⟨u,hv _ _ h1,h2⟩
 case indexAddr t x i =>
  obtain⟨u,h1,h2⟩:=sq hH (hρ x) (hρ i) hp G'
  exact⟨u,hv _ _ h1,h2⟩
 case index t x i =>
  obtain⟨u,h1,h2⟩:=yI (hρ x) (hρ i) hp G'
  exact⟨u,hv _ _ h1,h2⟩
 case lookup t x ix c =>
  obtain⟨u,h1,h2⟩:=wX hH (hρ x) (hρ ix) hp G'
  exact⟨u,hv _ _ h1,h2⟩
 case extract x i =>
  have hx:=hρ x
  unfold AL at hp
  split at hp
  ·rename_i cs hq
   split at hp
   ·rename_i hi
    cases hp
    rw[hq]at hx
    obtain⟨us,e,h1,h2⟩:=ud hx
    rw[TS]at hi
    have hu:us[i]?=some us[i]:=R0 (by omega)
    refine⟨us[i],hv _ _ (by rw[e];simp only[Instr.extract,hu];rfl),?_⟩
    rw[dF _ _ hi]
    exact h2 i _ _ (RB hi) hu
   ·cases hp;exact G'.elim
  ·cases hp;exact G'.elim
 case build t T6 =>
  obtain⟨u,h1,h2⟩:=yO (P:=P) hH (Ue:=T6.toList.map fun p=>(p.1,ρ' p.2)) (by simp) (fun j x u hx hu=>by
   simp only[R3,Si]at hx hu
   cases hj:T6[j]? with
   | none=>rw[hj]at hx;cases hx
   | some q=>rw[hj]at hx hu;simp at hx hu;subst hx hu;exact hρ q.2) hp G'
  refine⟨u,hv _ _ ?_,h2⟩
  rw[← h1]
  congr 2
  exact(TA (by simp))
 case call c =>
  obtain⟨callee,args,Xr⟩:=c
  simp only at hp
  split at hp
  ·rename_i hcal
   split at hp
   ·rename_i x t ha ht
    obtain⟨u,h1,h2⟩:=CI (P:=P) (ty:=o.type) hH (hρ x) hp G'
    refine⟨u,?_,h2⟩
    have ea:args=#[x]:=TA (by simpa using ha)
    have et:Xr=#[t]:=TA (by simpa using ht)
    subst ea et
    simp only[resolve,invoke,builtin,Tl,SJ,R4,RG,R5,RF,h1]
   ·cases hp;exact G'.elim
  ·split at hp
   ·rename_i x y ha
    have ea:args=#[x,y]:=TA (by simpa using ha)
    subst ea
    unfold Py at hp
    split at hp
    ·rename_i k a k' b V1 Wn
     cases hp
     have e1:=bW (V1 ▸ hρ x)
     have e2:=bW (Wn ▸ hρ y)
     refine⟨.int k (tY a b),?_,.v _ _ (.int _ _)⟩
     simp only[resolve,invoke,builtin,Tl,SJ,R4,RG,R5,RF,e1,e2,Builtin.min_,List.foldlM_cons,List.foldlM_nil,Builtin.min2]
     rfl
    ·cases hp;exact G'.elim
   ·cases hp;exact G'.elim
  ·split at hp
   ·rename_i x y ha
    have ea:args=#[x,y]:=TA (by simpa using ha)
    subst ea
    unfold Py at hp
    split at hp
    ·rename_i k a k' b V1 Wn
     cases hp
     have e1:=bW (V1 ▸ hρ x)
     have e2:=bW (Wn ▸ hρ y)
     refine⟨.int k (Ml a b),?_,.v _ _ (.int _ _)⟩
     simp only[resolve,invoke,builtin,Tl,SJ,R4,RG,R5,RF,e1,e2,Builtin.max_,List.foldlM_cons,List.foldlM_nil,Builtin.max2]
     rfl
    ·cases hp;exact G'.elim
   ·cases hp;exact G'.elim
  ·cases hp;exact G'.elim
end
end Go.Proofs.YtckgpflobhpnpaaGreat
namespace Go.Proofs.YtckgpflobhpnpaaGreat
open Go.RowKit
set_option linter.unusedVariables false
set_option linter.unusedSimpArgs false
def pD:List (Nat×D)→Nat→D
 | [],_=>.junk
 | (s,d)::r,t=>if Nat.beq s t then d else pD r t
def tu:List (Nat×D)→Nat→List (Nat×D)
 | [],_=>[]
 | (s,d)::r,t=>if Nat.beq s t then tu r t else (s,d)::tu r t
def AN (env:List (Nat×D)) (t:Nat) (d:D):List (Nat×D):=(t,d)::tu env t
def Hm (g:Nat):D:=match gK.find? (fun p=>Nat.beq p.1 g)with
 | some p=>.iptr p.2 0
 | none=>.junk
def eX (env:List (Nat×D)):Operand→D
 | .tmp t=>pD env t
 | .const v=>D.ofVal v
 | .func f=>.fn (.func f) [] []
 | .global g=>Hm g
theorem ss:∀{env:List (Nat×D)} {t:Nat},pD env t=.junk∨(t,pD env t)∈env
 | [],t=>.inl rfl
 | (s,d)::r,t=>by
  unfold pD
  cases h:Nat.beq s t
  ·simp only[SC,Ti]
   rcases ss (env:=r) (t:=t)with h | h
   ·exact .inl h
   ·exact .inr (Sb _ h)
  ·simp only[Tj]
   rw[RY]at h
   subst h
   exact .inr (Se ..)
theorem gi:∀{env:List (Nat×D)} {t s:Nat} {d:D},(s,d)∈tu env t→(s,d)∈env∧s≠t
 | [],t,s,d,h=>by cases h
 | (s',d')::r,t,s,d,h=>by
  unfold tu at h
  cases hb:Nat.beq s' t
  ·simp only[hb,SC,Ti]at h
   rcases Sq.1 h with h | h
   ·cases h
    refine⟨Se ..,fun e=>?_⟩
    subst e
    rw[TM]at hb
    cases hb
   ·exact⟨Sb _ (gi h).1,(gi h).2⟩
  ·simp only[hb,Tj]at h
   exact⟨Sb _ (gi h).1,(gi h).2⟩
def aZ (μ:Nat→Value) (id:Nat) (u:Value):Nat→Value:=fun i=>if i=id then u else μ i
theorem ay (μ:Nat→Value) (id:Nat) (u:Value):aZ μ id u id=u:=RH rfl
theorem aG (μ:Nat→Value) {id i:Nat} (u:Value) (h:i≠id):aZ μ id u i=μ i:=RE h
theorem yP {a b:Nat} (h:a≠b):(!(Nat.beq a b))=true:=by
 cases hb:Nat.beq a b
 ·rfl
 ·exact absurd (by rwa [RY]at hb) h
def bQ (id:Nat):List ap→Bool
 | []=>true
 | B::r=>ap.free id B&&bQ id r
theorem cu {id:Nat}:∀{H:List ap} {i:Nat} {B:ap},bQ id H=true→H[i]?=some B→ap.free id B=true
 | B'::r,0,B,h,hm=>by
  simp only[bQ,RA]at h
  simp at hm
  subst hm
  exact h.1
 | B'::r,i+1,B,h,hm=>by
  simp only[bQ,RA]at h
  exact cu h.2 (by simpa using hm)
def killD (id:Nat) (d:D):D:=if D.free id d then d else .junk
def ms (id:Nat):List (Nat×D)→List (Nat×D)
 | []=>[]
 | (t,d)::r=>(t,killD id d)::ms id r
def pE (id:Nat):List D→List D
 | []=>[]
 | d::r=>killD id d::pE id r
def ap.kill (id:Nat):ap→ap
 | .dead=>.dead
 | .var T cs=>.var T (pE id cs)
 | .arr E sz enc d l=>.arr E sz enc d l
 | .loop l tm nt env ps assign body state pending=>.loop l tm nt (ms id env) ps assign body state pending
 | .frame tm env=>.frame tm (ms id env)
 | .ro E sz enc d l=>.ro E sz enc d l
 | .mpb t ag enc d l=>.mpb t ag enc d l
 | .arrD E sz n gs cell=>if gs.all (fun g=>!(Nat.beq g id))then .arrD E sz n gs cell else .arrD E sz n (gs.filter (fun g=>!(Nat.beq g id))) (fun i j=>killD id (cell i j))
 | .grp n f=>.grp n f
 | .nest E sz n ce m f=>.nest E sz n ce m f
def cf (id:Nat):List ap→List ap
 | []=>[]
 | B::r=>B.kill id::cf id r
theorem kW (id:Nat) (d:D):D.free id (killD id d)=true:=by
 unfold killD
 cases h:D.free id d
 ·rfl
 ·simpa using h
theorem kX (id:Nat):∀env,b9 id (ms id env)=true
 | []=>rfl
 | (t,d)::r=>by simp[ms,b9,kW,kX id r]
theorem vk (id:Nat):∀cs,D.freeL id (pE id cs)=true
 | []=>rfl
 | d::r=>by simp[pE,D.freeL,kW,vk id r]
theorem kY (id:Nat):∀H,bQ id (cf id H)=true
 | []=>rfl
 | B::r=>by
  simp only[cf,bQ,kY id r,Tr]
  cases B<;>first | (simp[ap.kill,ap.free,vk,kX];done) | skip
  rename_i E sz n gs cell
  simp only[ap.kill]
  split
  ·rename_i h;exact h
  ·simp[ap.free]
theorem gj {id:Nat}:∀{env:List (Nat×D)} {t:Nat} {d:D},(t,d)∈ms id env→∃e,(t,e)∈env∧d=killD id e
 | (s,e)::r,t,d,h=>by
  rcases Sq.1 h with h | h
  ·cases h;exact⟨e,Se ..,rfl⟩
  ·obtain⟨e',h1,h2⟩:=gj h
   exact⟨e',Sb _ h1,h2⟩
theorem xr (id:Nat):∀(cs:List D) (j:Nat),(pE id cs)[j]?=(cs[j]?).map (killD id)
 | [],j=>by simp[pE]
 | d::r,0=>by simp[pE]
 | d::r,j+1=>by simp[pE,xr id r j]
theorem qF (id:Nat):∀cs,(pE id cs).length=cs.length
 | []=>rfl
 | d::r=>by simp[pE,qF id r]
theorem eK (id:Nat):∀(H:List ap) (j:Nat),(cf id H)[j]?=(H[j]?).map (ap.kill id)
 | [],j=>by simp[cf]
 | d::r,0=>by simp[cf]
 | d::r,j+1=>by simp[cf,eK id r j]
theorem bZ (id:Nat):∀H,(cf id H).length=H.length
 | []=>rfl
 | d::r=>by simp[cf,bZ id r]
theorem eM (id:Nat) (B:ap):(B.kill id).live=B.live:=by cases B<;>first | rfl | (simp only[ap.kill];split<;>rfl)
theorem og (id:Nat) (B:ap):(B.kill id).isRo=B.isRo:=by cases B<;>first | rfl | (simp only[ap.kill];split<;>rfl)
def St.kill (id:Nat) (st:St):St:=⟨ms id st.env,cf id st.heap⟩
def ck (H:List ap) (id:Nat) (B:ap):List ap:=if Nat.beq id H.length then H++[B]else H.set id B
theorem gk {H:List ap} {id:Nat} {B:ap} (Uh:id≤H.length) (i:Nat):(ck H id B)[i]?=if i=id then some B else H[i]?:=by
 unfold ck
 cases h:Nat.beq id H.length
 ·have Vh:id≠H.length:=fun e=>by rw[e,TM]at h;cases h
  simp only[SC,Ti]
  by_cases hi:i=id
  ·subst hi
   rw[RH rfl,RR (by omega)]
  ·rw[RE hi,RQ (fun e=>hi e.symm)]
 ·simp only[Tj]
  rw[RY]at h
  subst h
  by_cases hi:i=H.length
  ·subst hi
   simp
  ·rw[RE hi]
   by_cases hl:i<H.length
   ·rw[RP hl]
   ·rw[Sm (by simp;omega),Sm (by omega)]
section
variable {C:kU} {S:Nat→Prop} {μ:Nat→Value} {st:St} {a:Act} {w w':World}
theorem bc.eval (h:bc C S μ st a w) (x:Operand):an S μ w (eX st.env x) (a.eval x):=by
 cases x with
 | tmp t =>
  rcases ss (env:=st.env) (t:=t)with h1 | h1
  ·simp only[eX]
   rw[h1]
   exact .junk _
  ·exact(h.env _ _ h1).2
 | const v=>exact an.ofVal S μ w v
 | func f=>exact .fn _ _ _ #[] #[] rfl (fun j y u hy _=>by simp at hy) rfl (fun j y u hy _=>by simp at hy)
 | global g =>
  show an S μ w (Hm g) _
  unfold Hm
  split
  ·rename_i p hf
   have hm:=List.mem_of_find?_eq_some hf
   have hg:p.1=g:=by have:=List.find?_some hf;rwa [RY]at this
   obtain⟨p1,cs⟩:=p
   simp only at hg hm ⊢
   subst hg
   obtain⟨h1,h2,h3⟩:=h.glob p1 cs hm
   refine an.iptr cs 0 p1 0 (fun j=>(w.cell? ⟨p1,j,none⟩).getD undef) h1 h2 (fun j y hy=>?_) (fun j y hy=>?_)
   ·obtain⟨u,hu,_⟩:=h3 j y hy
    rw[Sp,hu];rfl
   ·obtain⟨u,hu,hr⟩:=h3 j y hy
    rw[hu];exact hr
  ·exact .junk _
theorem bc.put (h:bc C S μ st a w) {t:Nat} {d:D} {u:Value} (ht:t<C.nt) (hd:an S μ w d u):bc C S μ ⟨AN st.env t d,st.heap⟩ (a.put (some t) u) w:=by
 refine⟨h.os,h.tape,h.output,h.size,h.old,h.mono,h.new,h.slt,?_,h.heap,h.may,h.defers,by simp[Act.put,h.tsize],h.ro⟩
 intro s e hm
 rcases Sq.1 hm with hm | hm
 ·cases hm
  refine⟨ht,?_⟩
  have:(a.put (some t) u).tmps.getD t undef=u:=by
   have hts:t<a.tmps.size:=by rw[h.tsize];exact ht
   simp[Act.put,hts]
  rw[this]
  exact hd
 ·obtain⟨h1,h2⟩:=gi hm
  obtain⟨q1,q2⟩:=h.env s e h1
  refine⟨q1,?_⟩
  have:(a.put (some t) u).tmps.getD s undef=a.tmps.getD s undef:=by
   simp only[Act.put,Sx]
   rw[SE (fun e=>h2 e.symm)]
  rw[this]
  exact q2
theorem bc.weak (h:bc C S μ st a w) {env:List (Nat×D)} (he:∀t d,(t,d)∈env→d=.junk∧(∃e,(t,e)∈st.env)∨(t,d)∈st.env):bc C S μ ⟨env,st.heap⟩ a w :=
 ⟨h.os,h.tape,h.output,h.size,h.old,h.mono,h.new,h.slt,fun t d hm=>by
  rcases he t d hm with ⟨rfl,e,h1⟩ | h1
  ·exact⟨(h.env t e h1).1,.junk _⟩
  ·exact h.env t d h1,h.heap,h.may,h.defers,h.tsize,h.ro⟩
theorem an.killD {d:D} {u:Value} {id:Nat} (h:an S μ w d u):an S μ w (killD id d) u:=by
 unfold Proofs.YtckgpflobhpnpaaGreat.killD
 split
 ·exact h
 ·exact .junk _
theorem aH.kill {u:Value} {B:ap} {id:Nat} (h:aH S μ w u B):aH S μ w u (B.kill id):=by
 cases B with
 | dead=>trivial
 | arr E sz enc d l=>exact h
 | ro E sz enc d l=>exact h
 | mpb t ag enc d l=>exact h
 | grp n f=>exact h
 | nest E sz n ce m f=>exact h
 | arrD E sz n gs cell =>
  simp only[ap.kill]
  split
  ·exact h
  ·obtain⟨h0,xs,h1,h3⟩:=h
   refine⟨fun i j k hi hj hk=>?_,xs,h1,fun i j hi hj=>?_⟩
   ·show D.free k (if D.free id (cell i j)=true then cell i j else .junk)=true
    split
    ·rename_i hf
     by_cases e:k=id
     ·subst e;exact hf
     ·refine h0 i j k hi hj (R7.2 fun g hg=>?_)
      by_cases e':g=id
      ·subst e'
       exact yP (fun h=>e h.symm)
      ·exact R7.1 hk g (Ta.2 ⟨hg,yP e'⟩)
    ·rfl
   ·obtain⟨z,hz,ho,hr⟩:=h3 i j hi hj
    exact⟨z,hz,ho,hr.killD⟩
 | var T cs =>
  obtain⟨b,vs,rfl,h1,h2,h3⟩:=h
  refine⟨b,vs,rfl,h1,by rw[qF];exact h2,fun j y x hy hx=>?_⟩
  rw[xr]at hy
  cases hc:cs[j]? with
  | none=>rw[hc]at hy;cases hy
  | some e =>
   rw[hc]at hy
   simp only[Sr,RM]at hy
   subst hy
   unfold killD
   split
   ·exact h3 j e x hc hx
   ·exact .junk _
 | loop l tm nt env ps assign body state pending =>
  obtain⟨r,rfl,h1,h2,h3,h4,h5,h6,h7,h7',h8⟩:=h
  refine⟨r,rfl,h1,h2,h3,h4,h5,h6,h7,h7',fun t d hm=>?_⟩
  obtain⟨e,q1,rfl⟩:=gj hm
  obtain⟨q2,q3⟩:=h8 t e q1
  refine⟨q2,?_⟩
  exact q3.killD
 | frame tm env =>
  obtain⟨rfl,h8⟩:=h
  refine⟨rfl,fun t d hm=>?_⟩
  obtain⟨e,q1,rfl⟩:=gj hm
  obtain⟨q2,q3⟩:=h8 t e q1
  refine⟨q2,?_⟩
  exact q3.killD
theorem bc.kill (h:bc C S μ st a w) (id:Nat):bc C S μ (st.kill id) a w:=by
 have hg:∀(i:Nat) (A:ap),(cf id st.heap)[i]?=some A→∃B,st.heap[i]?=some B∧A=B.kill id:=by
  intro i A hA
  rw[eK]at hA
  cases hc:st.heap[i]? with
  | none=>rw[hc]at hA;cases hA
  | some B=>rw[hc]at hA;simp at hA;exact⟨B,rfl,hA.symm⟩
 refine⟨h.os,h.tape,h.output,h.size,h.old,h.mono,h.new,h.slt,?_,⟨?_,?_,?_⟩,?_,?_,h.tsize,?_⟩
 ·intro t d hm
  obtain⟨e,h1,rfl⟩:=gj hm
  obtain⟨q1,q2⟩:=h.env t e h1
  refine⟨q1,?_⟩
  unfold killD
  split
  ·exact q2
  ·exact .junk _
 ·intro i A hA
  obtain⟨B,hB,rfl⟩:=hg i A hA
  exact(h.heap.box i B hB).kill
 ·intro i j A B b hA hB la lb
  obtain⟨A',UT,rfl⟩:=hg i A hA
  obtain⟨B',UJ,rfl⟩:=hg j B hB
  rw[eM]at la lb
  exact h.heap.apart i j A' B' b UT UJ la lb
 ·intro i A b hA la
  obtain⟨A',UT,rfl⟩:=hg i A hA
  rw[eM]at la
  exact h.heap.notS i A' b UT la
 ·intro i A b hA la
  obtain⟨A',UT,rfl⟩:=hg i A hA
  rw[eM]at la
  exact h.may i A' b UT la
 ·obtain⟨mk,d1,d2,d3⟩:=h.defers
  refine⟨mk,d1,d2,fun b hb=>?_⟩
  obtain⟨q1,q2,q3,q4⟩:=d3 b hb
  refine⟨q1,q2,q3,fun i A hA hl=>?_⟩
  obtain⟨A',UT,rfl⟩:=hg i A hA
  rw[eM]at hl
  exact q4 i A' UT hl
 ·intro i A b hA la
  obtain⟨A',UT,rfl⟩:=hg i A hA
  rw[og]at la
  exact h.ro i A' b UT la
theorem bc.upd0 {id:Nat} {B:ap} {row:Option Nat} {u:Value} (h:bc C S μ st a w) (hg:w.grownBy w' row) (UA:∀k,row=some k→∃A,st.heap[id]?=some A∧A.live=true∧bL (μ id) k)
  (Uh:id≤st.heap.length) (N':aH S (aZ μ id u) w' u B) (Uj:∀b,bL u b→row=some b∨w.heap.size≤b)
  (VG:μ id=u∨(b9 id st.env=true∧bQ id st.heap=true)) (U9:B.isRo=false:=by rfl):bc C S (aZ μ id u) ⟨st.env,ck st.heap id B⟩ a w':=by
 have hSrow:∀k,row=some k→¬S k:=fun k hk=>by
  obtain⟨A,h1,h2,h3⟩:=UA k hk
  exact h.heap.notS id A k h1 h2 h3
 have hS:∀b,S b→w'.heap[b]?=w.heap[b]?:=fun b hb=>hg.block b (h.slt b hb) (fun e=>hSrow b e.symm hb)
 have hμd:∀d:D,(μ id=u∨D.free id d=true)→∀i,d.free i=false→aZ μ id u i=μ i:=by
  intro d hd i hi
  by_cases e:i=id
  ·subst e
   rcases hd with hd | hd
   ·rw[ay];exact hd.symm
   ·rw[hd]at hi;cases hi
  ·exact aG _ _ e
 have ZT:∀(i:Nat) (A:ap),i≠id→st.heap[i]?=some A→A.live=true→∀b,bL (μ i) b→w'.heap[b]?=w.heap[b]?:=by
  intro i A hi hA hl b hb
  refine hg.block b ((h.heap.box i A hA).lt hl b hb) (fun e=>?_)
  obtain⟨A',h1,h2,h3⟩:=UA b e.symm
  exact hi (h.heap.apart i id A A' b hA h1 hl h2 hb h3)
 refine⟨hg.os.trans h.os,hg.tape.trans h.tape,hg.output.trans h.output,SG h.size hg.size,?_,h.mono,h.new,fun b hb=>SA (h.slt b hb) hg.size,?_,⟨?_,?_,?_⟩,?_,?_,h.tsize,?_⟩
 ·intro k hk
  rw[hg.block k (SA hk h.size) (fun e=>?_)]
  ·exact h.old k hk
  ·obtain⟨A',h1,h2,h3⟩:=UA k e.symm
   have h4:=h.may id A' k h1 h2 h3
   omega
 ·intro t d hm
  obtain⟨q1,q2⟩:=h.env t d hm
  exact⟨q1,q2.stable (fun _ h _=>h) (fun b hb _=>hS b hb) hg.size (hμd d (VG.imp (fun h=>h) fun hf=>ct hf.1 hm))⟩
 ·intro i A hA
  rw[gk Uh]at hA
  by_cases hi:i=id
  ·rw[RH hi]at hA
   cases hA
   subst hi
   rw[ay]
   exact N'
  ·rw[RE hi]at hA
   rw[aG _ _ hi]
   have key:(∀b,bL (μ i) b→w'.heap[b]?=w.heap[b]?)→aH S (aZ μ id u) w' (μ i) A:=fun hbo=>by
    refine(h.heap.box i A hA).stable (fun _ h _=>h) (fun b hb _=>hS b hb) hg.size (fun j hj=>?_) hbo
    by_cases e:j=id
    ·subst e
     rcases VG with hf | hf
     ·rw[ay];exact hf.symm
     ·rw[cu hf.2 hA]at hj;cases hj
    ·exact aG _ _ e
   rcases A.three with rfl | hl | hl
   ·trivial
   ·exact key (ZT i A hi hA hl)
   ·refine key (fun b hb=>hg.block b ((h.heap.box i A hA).ltR hl b hb) (fun e=>?_))
    obtain⟨A',h1,h2,h3⟩:=UA b e.symm
    have h4:=h.may id A' b h1 h2 h3
    have h5:=h.ro i A b hA hl hb
    omega
 ·intro i j A A' b hA UT la Yy hb UN
  rw[gk Uh]at hA UT
  have key:∀(i j:Nat) (A:ap),i≠id→st.heap[i]?=some A→A.live=true→bL (μ i) b→bL u b→False:=by
   intro i j A hi hA la hb hu
   have Un:=(h.heap.box i A hA).lt la b hb
   rcases Uj b hu with hr | hr
   ·obtain⟨A',h1,h2,h3⟩:=UA b hr
    exact hi (h.heap.apart i id A A' b hA h1 la h2 hb h3)
   ·omega
  by_cases hi:i=id
  ·by_cases hj:j=id
   ·rw[hi,hj]
   ·rw[RE hj]at UT
    rw[aG _ _ hj]at UN
    rw[hi,ay]at hb
    exact(key j i A' hj UT Yy UN hb).elim
  ·rw[RE hi]at hA
   rw[aG _ _ hi]at hb
   by_cases hj:j=id
   ·rw[hj,ay]at UN
    exact(key i j A hi hA la hb UN).elim
   ·rw[RE hj]at UT
    rw[aG _ _ hj]at UN
    exact h.heap.apart i j A A' b hA UT la Yy hb UN
 ·intro i A b hA la hb hSb
  rw[gk Uh]at hA
  by_cases hi:i=id
  ·rw[hi,ay]at hb
   rcases Uj b hb with hr | hr
   ·exact hSrow b hr hSb
   ·have:=h.slt b hSb;omega
  ·rw[RE hi]at hA
   rw[aG _ _ hi]at hb
   exact h.heap.notS i A b hA la hb hSb
 ·intro i A b hA la hb
  rw[gk Uh]at hA
  by_cases hi:i=id
  ·rw[hi,ay]at hb
   rcases Uj b hb with hr | hr
   ·obtain⟨A',h1,h2,h3⟩:=UA b hr
    exact h.may id A' b h1 h2 h3
   ·exact SG h.size hr
  ·rw[RE hi]at hA
   rw[aG _ _ hi]at hb
   exact h.may i A b hA la hb
 ·obtain⟨mk,d1,d2,d3⟩:=h.defers
  refine⟨mk,d1,d2,fun b hb=>?_⟩
  obtain⟨q1,q2,q3,q4⟩:=d3 b hb
  have Un:b<w.heap.size:=(RU.1 q1).1
  have hnr:some b≠row:=fun e=>by
   obtain⟨A',r1,r2,r3⟩:=UA b e.symm
   exact q4 id A' r1 r2 r3
  refine⟨by rw[hg.block b Un hnr];exact q1,q2,q3,fun i A hA hl XC=>?_⟩
  rw[gk Uh]at hA
  by_cases hi:i=id
  ·rw[hi,ay]at XC
   rcases Uj b XC with hr | hr
   ·exact hnr hr.symm
   ·omega
  ·rw[RE hi]at hA
   rw[aG _ _ hi]at XC
   exact q4 i A hA hl XC
 ·intro i A b hA la hb
  rw[gk Uh]at hA
  by_cases hi:i=id
  ·rw[RH hi]at hA
   cases hA
   rw[U9]at la
   cases la
  ·rw[RE hi]at hA
   rw[aG _ _ hi]at hb
   exact h.ro i A b hA la hb
theorem bc.upd {id:Nat} {B:ap} {row:Option Nat} {u:Value} (h:bc C S μ st a w) (hg:w.grownBy w' row) (UA:∀k,row=some k→∃A,st.heap[id]?=some A∧A.live=true∧bL (μ id) k)
  (Uh:id≤st.heap.length) (N':aH S (aZ μ id u) w' u B) (Uj:∀b,bL u b→row=some b∨w.heap.size≤b)
  (VG:(μ id=u∧(B.isArr=false∨∃A,st.heap[id]?=some A∧A.isArr=true))∨((∀A,st.heap[id]?=some A→A.isArr=true)∧b9 id st.env=true∧bQ id st.heap=true)) (U9:B.isRo=false:=by rfl):bc C S (aZ μ id u) ⟨st.env,ck st.heap id B⟩ a w':=h.upd0 hg UA Uh N' Uj (VG.imp (fun hf=>hf.1) fun hf=>hf.2) U9
end
end Go.Proofs.YtckgpflobhpnpaaGreat
namespace Go.Proofs.YtckgpflobhpnpaaGreat
open Go.RowKit
set_option linter.unusedVariables false
set_option linter.unusedSimpArgs false
def D6:V→V→Prop
 | .int k a,.int k' b=>if k==k' then a=b else False
 | .bool a,.bool b=>a=b
 | .str a,.str b=>a=b
 | .nilf,.nilf=>True
 | .nsl,.nsl=>True
 | .nsl,.sl _ _ _ l=>l=[]
 | .esl,.esl=>True
 | .esl,.sl _ _ _ l=>l=[]
 | .sl sz enc _ l,.sl UR Up _ l'=>if Nat.beq sz UR then l.map enc=l'.map Up else False
 | .sm ag enc _ l,.sm ag' Up _ l'=>if ag==ag' then l.map (fun p=>(p.1,enc p.2))=l'.map (fun p=>(p.1,Up p.2))else False
 | .nmp,.nmp=>True
 | .fnv f,.fnv g=>if Nat.beq f g then True else False
 | .nmp,.sm _ _ _ l=>l=[]
 | _,_=>False
def Hn:V→Prop
 | .nsl=>True
 | _=>False
def J8:D→D→Prop
 | .v x,.v y=>D6 x y
 | .nils,.v (.sl _ _ _ l)=>l=[]
 | .nils,.v .nsl=>True
 | .v x,.nils=>Hn x
 | .iptr cs M',.iptr YH off'=>if Nat.beq M' off' then cs=YH else False
 | _,.junk=>True
 | x,y=>x=y
def N6:List D→List D→Prop
 | [],[]=>True
 | x::xs,y::ys=>J8 x y∧N6 xs ys
 | _,_=>False
def p6:D→D→Prop
 | .agg xs,.agg ys=>N6 xs ys
 | .tup xs,.tup ys=>N6 xs ys
 | x,y=>J8 x y
def J0 (H:List ap):D→D→Prop
 | .own id,.v y=>match H[id]? with
  | some (.arr _ sz enc d l)=>D6 (.sl sz enc d l) y
  | _=>False
 | x,y=>J8 x y
def N7 (H:List ap):List D→List D→Prop
 | [],[]=>True
 | x::xs,y::ys=>J0 H x y∧N7 H xs ys
 | _,_=>False
def LJ (H:List ap):D→D→Prop
 | .agg xs,.agg ys=>N7 H xs ys
 | x,y=>J0 H x y
def N8 (H:List ap):List D→List D→Prop
 | [],[]=>True
 | x::xs,y::ys=>LJ H x y∧N8 H xs ys
 | _,_=>False
def CL (H:List ap):List D→Option (List V)
 | []=>some []
 | .v x::r=>match CL H r with | some xs=>some (x::xs) | none=>none
 | .nils::r=>match CL H r with | some xs=>some (.nsl::xs) | none=>none
 | .own id::r=>match H[id]? with
  | some (.arr _ sz enc d l)=>(match CL H r with | some xs=>some (.sl sz enc d l::xs) | none=>none)
  | _=>none
 | _=>none
def NV (H:List ap):D→D→Prop
 | .ptr id i _ M',.iptr cs o=>match H[id]? with
  | some (.var _ bcs)=>(match Nat.beq i 0&&Nat.beq M' o,CL H bcs with | true,some vs=>vs=cs | _,_=>False)
  | _=>False
 | .own id,.v y=>match H[id]? with
  | some (.arrD _ sz n _ cell)=>sz=1∧∃(g m:Nat) (f:Nat→qC) (E2 Ye:Nat) (β:Type) (Yt:β→List V) (d2:β) (l:List (List β)),H[g]?=some (.grp m f)∧n=l.length∧n≤m∧(∀i,i<n→cell i 0=.gr g i∧f i=⟨E2,Ye,β,Yt,d2,l.getD i []⟩)∧D6 (.sl 1 (fun r=>[V.sl Ye Yt d2 r]) [] l) y
  | _=>J0 H (.own id) (.v y)
 | x,y=>J0 H x y
def N9 (H:List ap):List D→List D→Prop
 | [],[]=>True
 | x::xs,y::ys=>NV H x y∧N9 H xs ys
 | _,_=>False
def Pz (H:List ap):D→D→Prop
 | .agg xs,.agg ys=>N7 H xs ys
 | .fn f a b,.fn f' a' b'=>f=f'∧N9 H a a'∧N9 H b b'
 | x,y=>NV H x y
def wS (H:List ap):List D→List D→Prop
 | [],[]=>True
 | x::xs,y::ys=>Pz H x y∧wS H xs ys
 | _,_=>False
def D.isOwn:D→Bool
 | .own _=>true
 | .ptr _ _ _ _=>true
 | _=>false
def fN:List D→Bool
 | []=>true
 | .own _::_=>false
 | .ptr _ _ _ _::_=>false
 | .agg cs::r=>cs.all (fun c=>!c.isOwn)&&fN r
 | .fn _ a b::r=>a.all (fun c=>!c.isOwn)&&(b.all (fun c=>!c.isOwn)&&fN r)
 | _::r=>fN r
def ap.mem:ap→Bool
 | .arr _ _ _ _ _=>true
 | .var _ _=>true
 | .arrD _ _ _ _ _=>true
 | .grp _ _=>true
 | _=>false
theorem ap.mem_live {B:ap} (h:B.mem=true):B.live=true:=by cases B<;>first | rfl | cases h
theorem ap.arr_mem {B:ap} (h:B.isArr=true):B.mem=true:=by cases B<;>first | rfl | cases h
mutual
def eV:D→Bool
 | .own _=>false
 | .ptr _ _ _ _=>false
 | .agg cs=>p7 cs
 | .tup cs=>p7 cs
 | .fn _ a b=>p7 a&&p7 b
 | .yld _=>false
 | .gr _ _=>false
 | _=>true
def p7:List D→Bool
 | []=>true
 | c::cs=>eV c&&p7 cs
end
mutual
theorem gl (id:Nat):∀d:D,eV d=true→D.free id d=true
 | .own _,h=>by simp[eV]at h
 | .ptr _ _ _ _,h=>by simp[eV]at h
 | .agg cs,h=>by simp only[eV]at h;simp only[D.free];exact gV id cs h
 | .tup cs,h=>by simp only[eV]at h;simp only[D.free];exact gV id cs h
 | .fn _ a b,h=>by
  simp only[eV,RA]at h
  simp only[D.free,RA]
  exact⟨gV id a h.1,gV id b h.2⟩
 | .yld _,h=>by simp[eV]at h
 | .gr _ _,h=>by simp[eV]at h
 | .v _,_=>rfl
 | .nils,_=>rfl
 | .iptr _ _,_=>rfl
 | .capd _,_=>rfl
 | .junk,_=>rfl
theorem gV (id:Nat):∀cs:List D,p7 cs=true→D.freeL id cs=true
 | [],_=>rfl
 | c::cs,h=>by
  simp only[p7,RA]at h
  simp only[D.freeL,RA]
  exact⟨gl id c h.1,gV id cs h.2⟩
end
def ah (P:Program) (f:FuncId) (q':List D) (H:List ap) (al:Bool) (r:D) (H':List ap):Prop :=
 ∀(S:Nat→Prop) (μ:Nat→Value) (w:World) (us:Array Value),(∀b,S b→b<w.heap.size)→gf S w→bp S μ w H→aM S μ w q' us →
  Calls P f us w (fun e w'=>∃(u:Value) (μ':Nat→Value) (S':Nat→Prop),e=.returned u∧w'.os=w.os∧w'.tape=w.tape∧w'.output=w.output∧w.heap.size≤w'.heap.size ∧
   (∀k,k<w.heap.size→(∀(i:Nat) (A:ap),H[i]?=some A→A.live=true→¬bL (μ i) k)→w'.heap[k]?=w.heap[k]?) ∧
   (∀b,S b→S' b)∧(∀b,S' b→S b∨w.heap.size≤b)∧(∀b,S' b→b<w'.heap.size) ∧
   an (fun b=>S' b∧(al=true∨w.heap.size≤b)) μ' w' r u∧bp S' μ' w' H' ∧
   (∀(i:Nat) (A:ap) (b:Nat),H'[i]?=some A→A.live=true→bL (μ' i) b→w.heap.size≤b∨∃(j:Nat) (A':ap),H[j]?=some A'∧A'.live=true∧bL (μ j) b) ∧
   (∀(i:Nat) (A:ap),H[i]?=some A→A.isArr=false→A.live=true→μ' i=μ i))
section
variable {P:Program} {S:Nat→Prop} {μ:Nat→Value} {w:World}
theorem yQ {α β:Type _} {f:α→β} {l:List α} {i:Nat} {x:α} (h:l[i]?=some x):(l.map f)[i]?=some (f x):=by rw[R3,h];rfl
theorem eN {α β:Type _} {f:α→β} {l:List α} {i:Nat} {y:β} (h:(l.map f)[i]?=some y):∃x,l[i]?=some x∧f x=y:=by
 rw[R3]at h
 cases hx:l[i]? with
 | none=>rw[hx]at h;cases h
 | some x=>rw[hx]at h;simp at h;exact⟨x,rfl,h⟩
theorem F1 {sz:Nat} {α β:Type} {enc:α→List V} {d:α} {l:List α} {Up:β→List V} {d':β} {l':List β} {u:Value} (h:dM S w (.sl sz enc d l) u) (he:l.map enc=l'.map Up) :
  dM S w (.sl sz Up d' l') u:=by
 have Ud:l.length=l'.length:=by have:=congrArg List.length he;simpa using this
 obtain⟨p,c,rfl,h1,h2,h3,h4⟩:=fJ h
 refine p5 Ud (by omega) h2 h3 (fun h0=>?_)
 obtain⟨b,M',us,q1,q2,q3,q4,q5,q6⟩:=h4 (by omega)
 have back:∀(i:Nat) (x:β),l'[i]?=some x→∃y,l[i]?=some y∧enc y=Up x:=fun i x hx=>eN (by rw[he];exact yQ hx)
 refine⟨b,M',us,q1,q2,q3,fun i x hx=>?_,fun i x j y hx hy=>?_,fun i x j y hx hy=>?_⟩
 ·obtain⟨z,hz,e⟩:=back i x hx
  rw[← e];exact q4 i z hz
 ·obtain⟨z,hz,e⟩:=back i x hx
  exact q5 i z j y hz (by rw[e];exact hy)
 ·obtain⟨z,hz,e⟩:=back i x hx
  exact q6 i z j y hz (by rw[e];exact hy)
theorem F2 {ag:Bool} {α β:Type} {enc:α→List V} {Up:β→List V} {d:α} {d':β} {l:List (ByteArray×α)} {l':List (ByteArray×β)} {u:Value} (h:dM S w (.sm ag enc d l) u) (he:l.map (fun p=>(p.1,enc p.2))=l'.map (fun p=>(p.1,Up p.2))):dM S w (.sm ag Up d' l') u:=by
 have Ud:l.length=l'.length:=by have:=congrArg List.length he;simpa using this
 have back:∀(i:Nat) (k:ByteArray) (y:β),l'[i]?=some (k,y)→∃x,l[i]?=some (k,x)∧enc x=Up y:=fun i k y hy=>by
  have h1:(l'.map (fun p=>(p.1,Up p.2)))[i]?=some (k,Up y):=by rw[R3,hy];rfl
  rw[← he,R3]at h1
  cases hq:l[i]? with
  | none=>rw[hq]at h1;cases h1
  | some q =>
   rw[hq]at h1
   simp only[Sr,RM,RI]at h1
   exact⟨q.2,by rw[← h1.1],h1.2⟩
 cases h with
 | smn =>
  have:l'=[]:=So (by rw[← Ud];rfl)
  subst this
  exact .smn _ _ _
 | sm _ _ _ _ b clock arr us h1 h2 h3 h4 h5 h6 =>
  refine .sm _ _ _ _ b clock arr us h1 h2 h3 (by rw[h4,Ud]) (fun i k y hy=>?_) (fun i k y j z hy hz=>?_)
  ·obtain⟨x,hx,e⟩:=back i k y hy
   rw[← e];exact h5 i k x hx
  ·obtain⟨x,hx,e⟩:=back i k y hy
   exact h6 i k x j z hx (by rw[e];exact hz)
theorem uj {x y:V} {u:Value} (he:D6 x y) (h:dM S w x u):dM S w y u:=by
 unfold D6 at he
 split at he
 ·split at he
  ·rename_i hk
   rw[beq_iff_eq]at hk
   subst he hk
   exact h
  ·exact he.elim
 ·subst he;exact h
 ·subst he;exact h
 ·exact h
 ·exact h
 ·subst he;cases h;exact .nil _ _ _ _ _ (by simp[maxLen]) (fun _=>rfl)
 ·exact h
 ·subst he;cases h with
  | esl p c hc=>exact .nil _ _ _ _ _ hc (fun h=>by cases h)
 ·split at he
  ·rename_i hs
   rw[RY]at hs
   subst hs
   exact F1 h he
  ·exact he.elim
 ·split at he
  ·rename_i hs
   rw[beq_iff_eq]at hs
   subst hs
   exact F2 h he
  ·exact he.elim
 ·exact h
 ·split at he
  ·rename_i hk
   rw[RY]at hk
   subst hk;exact h
  ·exact he.elim
 ·subst he;cases h;exact .smn _ _ _
 ·exact he.elim
theorem un {x y:D} {u:Value} (he:J8 x y) (h:an S μ w x u):an S μ w y u:=by
 unfold J8 at he
 split at he
 ·exact .v _ _ (uj he (bv h))
 ·subst he
  cases h
  exact .v _ _ (.nil _ _ _ _ _ (by simp[maxLen]) (fun _=>rfl))
 ·cases h
  exact .v _ _ .nsl
 ·have h:=bv h
  unfold Hn at he
  split at he
  ·cases h;exact .nils
  ·exact he.elim
 ·split at he
  ·rename_i hs
   rw[RY]at hs
   subst he hs
   exact h
  ·exact he.elim
 ·exact .junk _
 ·subst he;exact h
theorem D7:∀{xs ys:List D} {us:Array Value},N6 xs ys→aM S μ w xs us→aM S μ w ys us
 | xs,ys,us,he,h=>by
  have key:∀(xs ys:List D),N6 xs ys→xs.length=ys.length∧∀(j:Nat) (y:D),ys[j]?=some y→∃x,xs[j]?=some x∧J8 x y:=by
   intro xs
   induction xs with
   | nil =>
    intro ys h
    cases ys with
    | nil=>exact⟨rfl,fun j y hy=>by simp at hy⟩
    | cons _ _=>exact h.elim
   | cons x xs ih =>
    intro ys h
    cases ys with
    | nil=>exact h.elim
    | cons y ys =>
     obtain⟨h1,h2⟩:=ih ys h.2
     refine⟨by simp[h1],fun j z hz=>?_⟩
     cases j with
     | zero=>simp at hz;subst hz;exact⟨x,rfl,h.1⟩
     | succ j=>simpa using h2 j z (by simpa using hz)
  obtain⟨h1,h2⟩:=key xs ys he
  exact⟨by rw[← h1];exact h.1,fun j y u hy hu=>by
   obtain⟨x,hx,WQ⟩:=h2 j y hy
   exact un WQ (h.2 j x u hx hu)⟩
theorem qG {x y:D} {u:Value} (he:p6 x y) (h:an S μ w x u):an S μ w y u:=by
 unfold p6 at he
 split at he
 ·obtain⟨us,rfl,h1,h2⟩:=fm h
  obtain⟨q1,q2⟩:=D7 he ⟨h1,h2⟩
  exact .agg _ _ q1 q2
 ·obtain⟨us,rfl,h1,h2⟩:=ud h
  obtain⟨q1,q2⟩:=D7 he ⟨h1,h2⟩
  exact .tup _ _ q1 q2
 ·exact un he h
theorem J9 {S':Nat→Prop} {t:TypeId} {ag:Bool} {α:Type} {enc:α→List V} {d:α} {l:List (ByteArray×α)} {u:Value} (h:aH S μ w u (.mpb t ag enc d l)) (hS:∀b,S b→S' b) (Uc:∀b,bL u b→S' b):dM S' w (.sm ag enc d l) u:=by
 obtain⟨b,arr,clock,rfl,hb,hl,hh⟩:=h
 have st:∀{y:V} {z:Value},dM S w y z→dM S' w y z:=fun h=>h.stable (fun b hb _=>hS b hb) (fun _ _ _=>rfl) (RD _)
 refine .sm ag enc d l b clock arr (fun i j=>if ag=true then (match (arr.getD i default).val with | .agg a=>a.getD j undef | _=>undef)else (arr.getD i default).val) (Uc b (.inl rfl)) (RU.1 hb).1 hb hl (fun i k x hx=>?_) (fun i k x j y hx hy=>?_)
 ·obtain⟨e,e1,e2,e3,e4⟩:=hh i k x hx
  refine⟨e,e1,e2,?_⟩
  have hg:arr.getD i default=e:=by simp[Sx,e1]
  unfold D0
  cases ag
  ·simp only[SC,Ti]
   exact⟨e3 rfl,by rw[hg]⟩
  ·simp only[Tj]
   obtain⟨a,ha,h1,h2⟩:=fm (show an S μ w (.agg ((enc x).map D.v)) e.val from e4)
   rw[RJ]at h1
   refine⟨a,ha,h1,fun j hj=>?_⟩
   rw[hg,ha]
   simp[Sx,R0 (show j<a.size by omega)]
 ·obtain⟨e,e1,e2,e3,e4⟩:=hh i k x hx
  have hg:arr.getD i default=e:=by simp[Sx,e1]
  cases ag
  ·simp only[SC,Ti]
   rw[hg]
   have Wp:=e3 rfl
   have hj:j=0:=by have:=(Rz.1 hy).1;omega
   subst hj
   match hq:enc x,Wp,hy with
   | [y'],_,hy =>
    cases hy
    have e4:an S μ w (pW false (enc x)) e.val:=e4
    rw[hq]at e4
    exact st (bv e4)
  ·simp only[Tj]
   obtain⟨a,ha,h1,h2⟩:=fm (show an S μ w (.agg ((enc x).map D.v)) e.val from e4)
   rw[RJ]at h1
   have hj:=(Rz.1 hy).1
   rw[hg,ha]
   have hu:a[j]?=some (a.getD j undef):=by simp[Sx,R0 (show j<a.size by omega)]
   exact st (bv (h2 j (.v y) _ (by rw[R3,hy];rfl) hu))
theorem vl {S':Nat→Prop} {E sz:Nat} {α:Type} {enc:α→List V} {d:α} {l:List α} {u:Value} (h:aH S μ w u (.arr E sz enc d l)) (hS:∀b,S b→S' b) (Uc:∀b,bL u b→S' b):dM S' w (.sl sz enc d l) u:=by
 have Un:=h.lt rfl
 obtain⟨p,c,hu,q1,q2,q3,q4⟩:=cD h
 subst hu
 refine p5 rfl q1 q2 q3 (fun h0=>?_)
 obtain⟨g,rfl⟩:=q4 h0
 obtain⟨r1,xs,r2,r3⟩:=h
 refine⟨g,0,fun i j=>xs.getD (i*sz+j) undef,rfl,Uc g (.inl rfl),Un g (.inl rfl),r1,fun i x j y hx hy=>?_,fun i x j y hx hy=>?_⟩
 ·obtain⟨z,hz,_⟩:=r3 i x j y hx hy
  rw[Sp,j9 r2 (b:=g) rfl _ _ hz]
  simp[List.getD,hz]
 ·obtain⟨z,hz,hr⟩:=r3 i x j y hx hy
  have:xs.getD (i*sz+j) undef=z:=by simp[List.getD,hz]
  show dM S' w y (xs.getD (i*sz+j) undef)
  rw[this]
  exact hr.stable (fun b hb _=>hS b hb) (fun _ _ _=>rfl) (RD _)
theorem iI {S':Nat→Prop} {E sz:Nat} {α:Type} {enc:α→List V} {d:α} {l:List α} {u:Value} (h:aH S μ w u (.arr E sz enc d l)) (hS:∀b,S b→S' b) (Uc:∀b,bL u b→S' b)
  (UY:∀b,S b→b<w.heap.size):dM S' w (.sl sz enc d l) u:=by
 have Un:=h.lt rfl
 obtain⟨p,c,hu,q1,q2,q3,q4⟩:=cD h
 subst hu
 refine p5 rfl q1 q2 q3 (fun h0=>?_)
 obtain⟨g,rfl⟩:=q4 h0
 obtain⟨r1,xs,r2,r3⟩:=h
 refine⟨g,0,fun i j=>xs.getD (i*sz+j) undef,rfl,Uc g (.inl rfl),Un g (.inl rfl),r1,fun i x j y hx hy=>?_,fun i x j y hx hy=>?_⟩
 ·obtain⟨z,hz,_⟩:=r3 i x j y hx hy
  rw[Sp,j9 r2 (b:=g) rfl _ _ hz]
  simp[List.getD,hz]
 ·obtain⟨z,hz,hr⟩:=r3 i x j y hx hy
  have:xs.getD (i*sz+j) undef=z:=by simp[List.getD,hz]
  show dM S' w y (xs.getD (i*sz+j) undef)
  rw[this]
  exact hr.stable (fun b hb _=>hS b hb) (fun _ _ _=>rfl) (RD _)
theorem oh {H:List ap} {S':Nat→Prop} (hH:bp S μ w H) (hS:∀b,S b→S' b) (UY:∀b,S b→b<w.heap.size) {x y:D} (Uc:(∀(i:Nat) (A:ap) (b:Nat),H[i]?=some A→A.isArr=true→bL (μ i) b→S' b)∨x.isOwn=false) {u:Value} (he:J0 H x y) (h:an S μ w x u):an S' μ w y u:=by
 unfold J0 at he
 split at he
 ·rename_i id y
  split at he
  ·rename_i E sz α enc d l hb
   have hu:=bX h
   subst hu
   have ho:∀b,bL (μ id) b→S' b:=fun b UN=>by
    rcases Uc with Uc | Uc
    ·exact Uc id _ b hb rfl UN
    ·cases Uc
   exact .v _ _ (uj he (iI (hH.box id _ hb) hS ho UY))
  ·exact he.elim
 ·exact un he (h.stable (fun b hb _=>hS b hb) (fun _ _ _=>rfl) (RD _) (fun _ _=>rfl))
theorem uo {H:List ap}:∀{xs ys:List D},N7 H xs ys→xs.length=ys.length∧∀(j:Nat) (y:D),ys[j]?=some y→∃x,xs[j]?=some x∧J0 H x y
 | [],[],_=>⟨rfl,fun j y hy=>by simp at hy⟩
 | [],_::_,h=>h.elim
 | _::_,[],h=>h.elim
 | x::xs,y::ys,h=>by
  obtain⟨h1,h2⟩:=uo h.2
  refine⟨by simp[h1],fun j z hz=>?_⟩
  cases j with
  | zero=>simp at hz;subst hz;exact⟨x,rfl,h.1⟩
  | succ j=>simpa using h2 j z (by simpa using hz)
theorem yR {H:List ap}:∀{xs ys:List D},N8 H xs ys→xs.length=ys.length∧∀(j:Nat) (y:D),ys[j]?=some y→∃x,xs[j]?=some x∧LJ H x y
 | [],[],_=>⟨rfl,fun j y hy=>by simp at hy⟩
 | [],_::_,h=>h.elim
 | _::_,[],h=>h.elim
 | x::xs,y::ys,h=>by
  obtain⟨h1,h2⟩:=yR h.2
  refine⟨by simp[h1],fun j z hz=>?_⟩
  cases j with
  | zero=>simp at hz;subst hz;exact⟨x,rfl,h.1⟩
  | succ j=>simpa using h2 j z (by simpa using hz)
theorem gm:∀{l:List D},fN l=true→∀(j:Nat) (x:D),l[j]?=some x→x.isOwn=false∧(∀cs,x=.agg cs→∀c∈cs,D.isOwn c=false)∧∀f a b,x=.fn f a b→(∀c∈a,D.isOwn c=false)∧∀c∈b,D.isOwn c=false
 | [],_,j,x,hx=>by simp at hx
 | d::l,h,j,x,hx=>by
  have hl:fN l=true:=by
   cases d<;>simp_all [fN]
  cases j with
  | zero =>
   simp at hx
   subst hx
   refine⟨by cases d<;>first | rfl | (simp[fN]at h),?_,?_⟩
   ·rintro cs rfl c hc
    simp only[fN,RA,R7]at h
    simpa using h.1 c hc
   ·rintro f a b rfl
    simp only[fN,RA,R7]at h
    exact⟨fun c hc=>by simpa using h.1 c hc,fun c hc=>by simpa using h.2.1 c hc⟩
  | succ j=>exact gm hl j x (by simpa using hx)
theorem Ka {H:List ap} {S':Nat→Prop} (hH:bp S μ w H) (hS:∀b,S b→S' b) (UY:∀b,S b→b<w.heap.size) {ds q':List D}
  (Uc:(∀(i:Nat) (A:ap) (b:Nat),H[i]?=some A→A.isArr=true→bL (μ i) b→S' b)∨fN ds=true) {us:Array Value} (he:N8 H ds q') (h:aM S μ w ds us):aM S' μ w q' us:=by
 obtain⟨h1,h2⟩:=yR he
 refine⟨by rw[← h1];exact h.1,fun j y u hy hu=>?_⟩
 obtain⟨x,hx,WQ⟩:=h2 j y hy
 have VX:=h.2 j x u hx hu
 unfold LJ at WQ
 split at WQ
 ·rename_i xs ys
  obtain⟨vs,rfl,q1,q2⟩:=fm VX
  obtain⟨r1,r2⟩:=uo WQ
  refine .agg _ _ (by rw[← r1];exact q1) (fun k z v hz hv=>?_)
  obtain⟨x',WR,XN⟩:=r2 k z hz
  exact oh hH hS UY (Uc.imp id fun hn=>(gm hn j _ hx).2.1 _ rfl x' (Sf WR)) XN (q2 k x' v WR hv)
 ·exact oh hH hS UY (Uc.imp id fun hn=>(gm hn j _ hx).1) WQ VX
theorem AO {H:List ap} {S':Nat→Prop} (hH:bp S μ w H) (hS:∀b,S b→S' b) (UY:∀b,S b→b<w.heap.size) (Uc:∀(i:Nat) (A:ap) (b:Nat),H[i]?=some A→A.mem=true→bL (μ i) b→S' b) :
  ∀{cs:List D} {vs:List V},CL H cs=some vs→vs.length=cs.length∧∀(j:Nat) (y:V),vs[j]?=some y→∃x,cs[j]?=some x∧∀u,an S μ w x u→dM S' w y u
 | [],vs,h=>by cases h;exact⟨rfl,fun j y hy=>by simp at hy⟩
 | c::r,vs,h=>by
  have key:∃y0 ys,vs=y0::ys∧CL H r=some ys∧∀u,an S μ w c u→dM S' w y0 u:=by
   unfold CL at h
   split at h
   ·rename_i he
    cases he
   ·rename_i x r' he
    cases he
    split at h
    ·rename_i xs hxs
     cases h
     exact⟨_,_,rfl,hxs,fun u hu=>(bv hu).stable (fun b hb _=>hS b hb) (fun _ _ _=>rfl) (RD _)⟩
    ·cases h
   ·rename_i r' he
    cases he
    split at h
    ·rename_i xs hxs
     cases h
     exact⟨_,_,rfl,hxs,fun u hu=>by cases hu;exact .nsl⟩
    ·cases h
   ·rename_i id r' he
    cases he
    split at h
    ·rename_i E sz α enc d l hb
     split at h
     ·rename_i xs hxs
      cases h
      exact⟨_,_,rfl,hxs,fun u hu=>by rw[bX hu];exact iI (hH.box id _ hb) hS (fun b UN=>Uc id _ b hb rfl UN) UY⟩
     ·cases h
    ·cases h
   ·cases h
  obtain⟨y0,ys,rfl,h1,h2⟩:=key
  obtain⟨q1,q2⟩:=AO hH hS UY Uc h1
  refine⟨by simp[q1],fun j y hy=>?_⟩
  cases j with
  | zero=>simp at hy;subst hy;exact⟨c,rfl,h2⟩
  | succ j=>simpa using q2 j y (by simpa using hy)
theorem yS {H:List ap} {S':Nat→Prop} (hH:bp S μ w H) (hS:∀b,S b→S' b) (UY:∀b,S b→b<w.heap.size) {x y:D} (Uc:(∀(i:Nat) (A:ap) (b:Nat),H[i]?=some A→A.mem=true→bL (μ i) b→S' b)∨x.isOwn=false) {u:Value} (he:NV H x y) (h:an S μ w x u):an S' μ w y u:=by
 unfold NV at he
 split at he
 ·rename_i id i sz M' cs o
  split at he
  ·rename_i T bcs hb
   have VI:∀(i:Nat) (A:ap) (b:Nat),H[i]?=some A→A.mem=true→bL (μ i) b→S' b:=by
    rcases Uc with Uc | Uc
    ·exact Uc
    ·cases Uc
   split at he
   ·rename_i vs hc hv
    subst he
    simp only[RA,RY]at hc
    obtain⟨rfl,rfl⟩:=hc
    obtain⟨b,Vn,rfl⟩:=oe h
    obtain⟨b',us,hu,h1,h2,h3⟩:=hH.box id _ hb
    rw[hu]at Vn
    simp[bL,aI]at Vn
    subst Vn
    obtain⟨q1,q2⟩:=AO hH hS UY VI hv
    have Un:b'<w.heap.size:=(RU.1 h1).1
    have:=an.iptr (S:=S') (μ:=μ) (w:=w) vs M' b' 0 (fun j=>us.getD j undef) (VI id _ b' hb rfl (by rw[hu];exact .inl rfl)) Un (fun j y hy=>?_) (fun j y hy=>?_)
    ·simpa using this
    ·have hj:j<us.size:=by rw[h2,← q1];exact(Rz.1 hy).1
     unfold World.cell?
     simp only[Sp,h1]
     simp[Array.getD,hj]
    ·obtain⟨x,hx,hr⟩:=q2 j y hy
     have hj:j<us.size:=by rw[h2,← q1];exact(Rz.1 hy).1
     have WH:us[j]?=some (us.getD j undef):=by simp[Array.getD,hj]
     exact hr _ (h3 j x _ hx WH)
   ·exact he.elim
  ·exact he.elim
 ·rename_i id y
  split at he
  ·rename_i E sz n gs cell hb
   obtain⟨rfl,g,m,f,E2,Ye,β,Yt,d2,l,hg,rfl,Xs,Vd,hy⟩:=he
   have VI:∀(i:Nat) (A:ap) (b:Nat),H[i]?=some A→A.mem=true→bL (μ i) b→S' b:=by
    rcases Uc with Uc | Uc
    ·exact Uc
    ·cases Uc
   have hu:=bX h
   subst hu
   obtain⟨r0,xs,r1,r2⟩:=hH.box id _ hb
   obtain⟨us,hgu,Ul,UA,_⟩:=hH.box g _ hg
   have hB:aH S' μ w (μ id) (.arr E 1 (fun r=>[V.sl Ye Yt d2 r]) [] l):=by
    refine⟨fun i x _=>rfl,xs,r1,fun i x j v hx hv=>?_⟩
    have hi:i<l.length:=(Rz.1 hx).1
    have hj:j=0:=by
     have:=(Rz.1 hv).1
     simp at this
     omega
    subst hj
    simp only[TG,RM]at hv
    subst hv
    obtain⟨z,hz,_,hd⟩:=r2 i 0 hi (by omega)
    rw[(Vd i hi).1]at hd
    refine⟨z,hz,?_⟩
    cases hd with
    | gr _ _ VH _ h1 h2 h3 =>
     rw[hgu]at h1
     cases h1
     have hrr:=(UA i z h2).2
     rw[(Vd i hi).2,show l.getD i []=x by rw[dF _ _ hi];exact(Rz.1 hx).2]at hrr
     exact vl (μ:=μ) (E:=E2) hrr hS (fun b UN=>VI g _ b hg rfl (by
      rw[hgu]
      exact .inr ⟨us,rfl,i,z,h2,UN.bl h3⟩))
   exact .v _ _ (uj hy (vl hB (fun _ h=>h) (fun b UN=>VI id _ b hb rfl UN)))
  ·exact oh hH hS UY (Uc.imp (fun hn i A b h1 h2 h3=>hn i A b h1 (ap.arr_mem h2) h3) (fun z=>z)) he h
 ·exact oh hH hS UY (Uc.imp (fun hn i A b h1 h2 h3=>hn i A b h1 (ap.arr_mem h2) h3) id) he h
theorem yT {H:List ap}:∀{xs ys:List D},N9 H xs ys→xs.length=ys.length∧∀(j:Nat) (y:D),ys[j]?=some y→∃x,xs[j]?=some x∧NV H x y
 | [],[],_=>⟨rfl,fun j y hy=>by simp at hy⟩
 | [],_::_,h=>h.elim
 | _::_,[],h=>h.elim
 | x::xs,y::ys,h=>by
  obtain⟨h1,h2⟩:=yT h.2
  refine⟨by simp[h1],fun j z hz=>?_⟩
  cases j with
  | zero=>simp at hz;subst hz;exact⟨x,rfl,h.1⟩
  | succ j=>simpa using h2 j z (by simpa using hz)
theorem D8 {H:List ap}:∀{xs ys:List D},wS H xs ys→xs.length=ys.length∧∀(j:Nat) (y:D),ys[j]?=some y→∃x,xs[j]?=some x∧Pz H x y
 | [],[],_=>⟨rfl,fun j y hy=>by simp at hy⟩
 | [],_::_,h=>h.elim
 | _::_,[],h=>h.elim
 | x::xs,y::ys,h=>by
  obtain⟨h1,h2⟩:=D8 h.2
  refine⟨by simp[h1],fun j z hz=>?_⟩
  cases j with
  | zero=>simp at hz;subst hz;exact⟨x,rfl,h.1⟩
  | succ j=>simpa using h2 j z (by simpa using hz)
theorem kZ {H:List ap} {S':Nat→Prop} (hH:bp S μ w H) (hS:∀b,S b→S' b) (UY:∀b,S b→b<w.heap.size) {ds q':List D}
  (Uc:(∀(i:Nat) (A:ap) (b:Nat),H[i]?=some A→A.mem=true→bL (μ i) b→S' b)∨fN ds=true) {us:Array Value} (he:wS H ds q') (h:aM S μ w ds us):aM S' μ w q' us:=by
 obtain⟨h1,h2⟩:=D8 he
 refine⟨by rw[← h1];exact h.1,fun j y u hy hu=>?_⟩
 obtain⟨x,hx,WQ⟩:=h2 j y hy
 have VX:=h.2 j x u hx hu
 unfold Pz at WQ
 split at WQ
 ·rename_i xs ys
  obtain⟨vs,rfl,q1,q2⟩:=fm VX
  obtain⟨r1,r2⟩:=uo WQ
  refine .agg _ _ (by rw[← r1];exact q1) (fun k z v hz hv=>?_)
  obtain⟨x',WR,XN⟩:=r2 k z hz
  refine oh hH hS UY ?_ XN (q2 k x' v WR hv)
  rcases Uc with Uc | hn
  ·exact .inl (fun i A b h1 h2 h3=>Uc i A b h1 (ap.arr_mem h2) h3)
  ·exact .inr ((gm hn j _ hx).2.1 _ rfl x' (Sf WR))
 ·rename_i f a b f' a' b'
  obtain⟨rfl,ha,hb⟩:=WQ
  obtain⟨a1,a2⟩:=yT ha
  obtain⟨b1,b2⟩:=yT hb
  cases VX with
  | fn _ _ _ us vs q1 q2 q3 q4 =>
   refine .fn _ _ _ us vs (by rw[← a1];exact q1) (fun k z v hz hv=>?_) (by rw[← b1];exact q3) (fun k z v hz hv=>?_)
   ·obtain⟨x',WR,XN⟩:=a2 k z hz
    exact yS hH hS UY (Uc.imp id fun hn=>((gm hn j _ hx).2.2 _ _ _ rfl).1 x' (Sf WR)) XN (q2 k x' v WR hv)
   ·obtain⟨x',WR,XN⟩:=b2 k z hz
    exact yS hH hS UY (Uc.imp id fun hn=>((gm hn j _ hx).2.2 _ _ _ rfl).2 x' (Sf WR)) XN (q4 k x' v WR hv)
 ·exact yS hH hS UY (Uc.imp id fun hn=>(gm hn j _ hx).1) WQ VX
end
section
variable {C:kU} {S:Nat→Prop} {μ:Nat→Value} {st:St} {a:Act} {w w':World}
theorem bc.grow (h:bc C S μ st a w) {S':Nat→Prop} (h1:w'.os=w.os) (h2:w'.tape=w.tape) (h3:w'.output=w.output) (h4:w.heap.size≤w'.heap.size) (h5:∀k,k<w.heap.size→w'.heap[k]?=w.heap[k]?)
  (h6:∀b,S b→S' b) (h7:∀b,S' b→S b∨w.heap.size≤b) (h8:∀b,S' b→b<w'.heap.size):bc C S' μ st a w':=by
 have Uj:∀(i:Nat) (A:ap),st.heap[i]?=some A→A.live=true→∀b,bL (μ i) b→w'.heap[b]?=w.heap[b]?:=fun i A hA hl b hb=>h5 b ((h.heap.box i A hA).lt hl b hb)
 refine⟨h1.trans h.os,h2.trans h.tape,h3.trans h.output,SG h.size h4,fun k hk=>by rw[h5 k (SA hk h.size)];exact h.old k hk,fun b hb=>h6 b (h.mono b hb),?_,h8,?_,⟨?_,h.heap.apart,?_⟩,h.may,?_,h.tsize,h.ro⟩
 ·intro b hb
  rcases h7 b hb with hb | hb
  ·exact h.new b hb
  ·exact .inr (SG h.size hb)
 ·intro t d hm
  obtain⟨q1,q2⟩:=h.env t d hm
  exact⟨q1,q2.stable (fun b hb _=>h6 b hb) (fun b hb hl=>h5 b hl) h4 (fun _ _=>rfl)⟩
 ·intro i A hA
  rcases A.three with rfl | hl | hl
  ·trivial
  ·exact(h.heap.box i A hA).stable (fun b hb _=>h6 b hb) (fun b hb hl=>h5 b hl) h4 (fun _ _=>rfl) (Uj i A hA hl)
  ·exact(h.heap.box i A hA).stable (fun b hb _=>h6 b hb) (fun b hb hl=>h5 b hl) h4 (fun _ _=>rfl) (fun b hb=>h5 b ((h.heap.box i A hA).ltR hl b hb))
 ·intro i A b hA hl hb hS
  rcases h7 b hS with hS | hS
  ·exact h.heap.notS i A b hA hl hb hS
  ·have:=(h.heap.box i A hA).lt hl b hb
   omega
 ·obtain⟨mk,d1,d2,d3⟩:=h.defers
  refine⟨mk,d1,d2,fun b hb=>?_⟩
  obtain⟨q1,q2,q3,q4⟩:=d3 b hb
  have Un:b<w.heap.size:=(RU.1 q1).1
  exact⟨by rw[h5 b Un];exact q1,q2,fun UN=>(h7 b UN).elim q3 (fun h=>by omega),q4⟩
theorem bc.callCore (h:bc C S μ st a w) {f:FuncId} {q':List D} {al:Bool} {r:D} {us:Array Value} (hc:ah C.P f q' [] al r []) {S1:Nat→Prop} (h1:∀b,S b→S1 b) (h2:∀b,S1 b→b<w.heap.size)
  (h3:al=true→∀b,S1 b→S b) (UG:aM S1 μ w q' us) (hr:eV r=true) {K:Value→World→Prop} (hK:∀S' u w',bc C S' μ st a w'→an S' μ w' r u→K u w') :
  Calls C.P f us w (fun e w'=>∃u,e=.returned u∧K u w'):=by
 have slt:=h.slt
 refine(hc S1 μ w us h2 (h.glob.stable (fun b hb _=>h1 b hb) (fun _ _ _=>rfl) (RD _)) ⟨fun id B hB=>by simp at hB,fun i j A B b hA=>by simp at hA,fun i A b hA=>by simp at hA⟩ UG).mono ?_
 rintro e w' ⟨u,μ',S',rfl,q1,q2,q3,q4,q5,q6,q7,q8,q9,_⟩
 refine⟨u,rfl,hK (fun b=>S b∨(S' b∧w.heap.size≤b)) u w' (h.grow q1 q2 q3 q4 (fun k hk=>q5 k hk (fun i A hA=>by simp at hA)) (fun b hb=>.inl hb) ?_ ?_) ?_⟩
 ·rintro b (hb | ⟨_,hb⟩)
  ·exact .inl hb
  ·exact .inr hb
 ·rintro b (hb | ⟨hb,_⟩)
  ·exact SA (slt b hb) q4
  ·exact q8 b hb
 ·refine q9.stable ?_ (fun _ _ _=>rfl) (RD _) (fun id Uh=>by rw[gl id r hr]at Uh;cases Uh)
  rintro b ⟨hb,WW⟩ _
  rcases q7 b hb with ZU | ZU
  ·rcases WW with WW | WW
   ·exact .inl (h3 WW b ZU)
   ·exact .inr ⟨hb,WW⟩
  ·exact .inr ⟨hb,ZU⟩
def p8 (P:Program) (g:FuncId) (H:List ap) (ds:List D) (q':Option (List D)) (al:Bool) (r:D):Prop :=
 match q' with
 | none=>ah P g ds [] al r []
 | some q'=>wS H ds q'∧ah P g q' [] al r []
theorem bc.callPure (h:bc C S μ st a w) {f:FuncId} {ds:List D} {q':Option (List D)} {al:Bool} {r:D} {us:Array Value} (hc:p8 C.P f st.heap ds q' al r) (UG:aM S μ w ds us) (UL:al=false∨fN ds=true)
  (hr:eV r=true) {K:Value→World→Prop} (hK:∀S' u w',bc C S' μ st a w'→an S' μ w' r u→K u w') :
  Calls C.P f us w (fun e w'=>∃u,e=.returned u∧K u w'):=by
 cases q' with
 | none=>exact h.callCore hc (fun _ h=>h) h.slt (fun _ _ h=>h) UG hr hK
 | some q' =>
  obtain⟨YL,hc⟩:=hc
  have slt:=h.slt
  have hSc:∀b,(S b∨(al=false∧∃(i:Nat) (A:ap),st.heap[i]?=some A∧A.mem=true∧bL (μ i) b))→b<w.heap.size:=by
   rintro b (hb | ⟨_,i,A,hA,hl,hb⟩)
   ·exact slt b hb
   ·exact(h.heap.box i A hA).lt (ap.mem_live hl) b hb
  refine h.callCore hc (S1:=fun b=>S b∨(al=false∧∃(i:Nat) (A:ap),st.heap[i]?=some A∧A.mem=true∧bL (μ i) b)) (fun b hb=>.inl hb) hSc ?_ ?_ hr hK
  ·rintro UL b (hb | ⟨h0,_⟩)
   ·exact hb
   ·rw[UL]at h0;cases h0
  ·refine kZ h.heap (fun b hb=>.inl hb) slt ?_ YL UG
   rcases UL with UL | UL
   ·exact .inl (fun i A b hA hl hb=>.inr ⟨UL,i,A,hA,hl,hb⟩)
   ·exact .inr UL
def Oa (id:Nat):D→D→Prop
 | .own i,.own j=>i=id∧j=0
 | .own _,.junk=>True
 | .own _,_=>False
 | x,y=>eV y=true∧J8 x y
def PG (id:Nat):List D→List D→Prop
 | [],[]=>True
 | x::xs,y::ys=>Oa id x y∧PG id xs ys
 | _,_=>False
def PH (id:Nat):D→D→Prop
 | .agg xs,.agg ys=>PG id xs ys
 | x,y=>Oa id x y
def PA (id:Nat):List D→List D→Prop
 | [],[]=>True
 | x::xs,y::ys=>PH id x y∧PA id xs ys
 | _,_=>False
theorem D9 {S:Nat→Prop} {μ:Nat→Value} {w:World} {id:Nat} {x y:D} {u:Value} (h:Oa id x y) (hx:an S μ w x u):an S (fun _=>μ id) w y u:=by
 unfold Oa at h
 split at h
 ·obtain⟨rfl,rfl⟩:=h
  cases hx
  exact an.own (μ:=fun _=>μ _) 0
 ·exact .junk _
 ·exact h.elim
 ·exact(un h.2 hx).stable (fun _ h _=>h) (fun _ _ _=>rfl) (RD _) (fun i hi=>by rw[gl i _ h.1]at hi;cases hi)
theorem Ea {id:Nat}:∀{xs ys:List D},PG id xs ys→xs.length=ys.length∧∀(j:Nat) (y:D),ys[j]?=some y→∃x,xs[j]?=some x∧Oa id x y
 | [],[],_=>⟨rfl,fun j y hy=>by simp at hy⟩
 | [],_::_,h=>h.elim
 | _::_,[],h=>h.elim
 | x::xs,y::ys,h=>by
  obtain⟨h1,h2⟩:=Ea h.2
  refine⟨by simp[h1],fun j z hz=>?_⟩
  cases j with
  | zero=>simp at hz;subst hz;exact⟨x,rfl,h.1⟩
  | succ j=>simpa using h2 j z (by simpa using hz)
theorem Eb {id:Nat}:∀{xs ys:List D},PA id xs ys→xs.length=ys.length∧∀(j:Nat) (y:D),ys[j]?=some y→∃x,xs[j]?=some x∧PH id x y
 | [],[],_=>⟨rfl,fun j y hy=>by simp at hy⟩
 | [],_::_,h=>h.elim
 | _::_,[],h=>h.elim
 | x::xs,y::ys,h=>by
  obtain⟨h1,h2⟩:=Eb h.2
  refine⟨by simp[h1],fun j z hz=>?_⟩
  cases j with
  | zero=>simp at hz;subst hz;exact⟨x,rfl,h.1⟩
  | succ j=>simpa using h2 j z (by simpa using hz)
theorem Ec {S:Nat→Prop} {μ:Nat→Value} {w:World} {id:Nat} {ds q':List D} {us:Array Value} (he:PA id ds q') (h:aM S μ w ds us):aM S (fun _=>μ id) w q' us:=by
 obtain⟨h1,h2⟩:=Eb he
 refine⟨by rw[← h1];exact h.1,fun j y u hy hu=>?_⟩
 obtain⟨x,hx,WQ⟩:=h2 j y hy
 have VX:=h.2 j x u hx hu
 unfold PH at WQ
 split at WQ
 ·obtain⟨vs,rfl,q1,q2⟩:=fm VX
  obtain⟨r1,r2⟩:=Ea WQ
  refine .agg _ _ (by rw[← r1];exact q1) (fun k z v hz hv=>?_)
  obtain⟨x',WR,XN⟩:=r2 k z hz
  exact D9 XN (q2 k x' v WR hv)
 ·exact D9 WQ VX
def Ho:Option ap→Option ap
 | some (.arr E sz enc d l)=>some (.ro E sz enc d l)
 | some (.ro E sz enc d l)=>some (.ro E sz enc d l)
 | _=>none
theorem xt {S:Nat→Prop} {μ μ':Nat→Value} {w:World} {u:Value} {A B:ap} (h:Ho (some A)=some B) (hA:aH S μ w u A):B.isRo=true∧aH S μ' w u B:=by
 unfold Ho at h
 split at h
 ·rename_i e;cases e;cases h;exact⟨rfl,hA⟩
 ·rename_i e;cases e;cases h;exact⟨rfl,hA⟩
 ·cases h
def ld (P:Program) (g:FuncId) (H:List ap) (ds:List D) (id:Nat) (q':List D) (r:D):Prop :=
 match Ho H[id]? with
 | some B=>PA id ds q'∧ah P g q' [B] true r []
 | none=>False
theorem Ed {S:Nat→Prop} {μ:Nat→Value} {w:World} {B:ap} (hr:B.isRo=true) (h:aH S μ w (μ 0) B):bp S μ w [B]:=by
 have hl:B.live=false:=by cases B<;>first | rfl | cases hr
 have one:∀(i:Nat) (A:ap),[B][i]?=some A→i=0∧A=B:=fun i A hA=>by
  match i with
  | 0=>simp at hA;exact⟨rfl,hA.symm⟩
  | i+1=>simp at hA
 refine⟨fun i A hA=>?_,fun i j A A' b hA _ la=>?_,fun i A b hA la=>?_⟩
 ·obtain⟨rfl,rfl⟩:=one i A hA;exact h
 ·rw[(one i A hA).2,hl]at la;cases la
 ·rw[(one i A hA).2,hl]at la;cases la
theorem bc.callR (h:bc C S μ st a w) {f:FuncId} {ds:List D} {id:Nat} {q':List D} {r:D} {us:Array Value} (hc:ld C.P f st.heap ds id q' r) (UG:aM S μ w ds us)
  (hr:eV r=true) {K:Value→World→Prop} (hK:∀S' u w',bc C S' μ st a w'→an S' μ w' r u→K u w') :
  Calls C.P f us w (fun e w'=>∃u,e=.returned u∧K u w'):=by
 unfold ld at hc
 split at hc
 ·rename_i B hB
  obtain⟨hra,hc⟩:=hc
  cases XI:st.heap[id]? with
  | none=>rw[XI]at hB;cases hB
  | some A =>
   rw[XI]at hB
   obtain⟨U9,N'⟩:=xt (μ':=fun _=>μ id) hB (h.heap.box id A XI)
   have hl:B.live=false:=by cases B<;>first | rfl | cases U9
   have slt:=h.slt
   refine(hc S (fun _=>μ id) w us slt h.glob (Ed U9 N') (Ec hra UG)).mono ?_
   rintro e w' ⟨u,μ',S',rfl,q1,q2,q3,q4,q5,q6,q7,q8,q9,_⟩
   have nolive:∀(k i:Nat) (A:ap),[B][i]?=some A→A.live=true→¬bL ((fun _=>μ id) i) k:=fun k i A hA la=>by
    match i with
    | 0=>simp at hA;rw[← hA,hl]at la;cases la
    | i+1=>simp at hA
   refine⟨u,rfl,hK S' u w' (h.grow q1 q2 q3 q4 (fun k hk=>q5 k hk (nolive k)) q6 q7 q8) ?_⟩
   exact q9.stable (fun b hb _=>hb.1) (fun _ _ _=>rfl) (RD _) (fun id Uh=>by rw[gl id r hr]at Uh;cases Uh)
 ·exact hc.elim
end
end Go.Proofs.YtckgpflobhpnpaaGreat
namespace Go.Proofs.YtckgpflobhpnpaaGreat
open Go.RowKit
set_option linter.unusedVariables false
set_option linter.unusedSimpArgs false
inductive Fz:Type 1
 | sl (x:V)
 | vr (cs:List V)
 | gs (f:Nat→V)
def Fz.own:Fz→D
 | .sl x=>.v x
 | .vr _=>.junk
 | .gs _=>.junk
def Fz.gr:Fz→Nat→D
 | .gs f,r=>.v (f r)
 | _,_=>.junk
def Fz.ptr:Fz→Nat→Nat→D
 | .sl _,_,_=>.junk
 | .gs _,_,_=>.junk
 | .vr cs,k,M'=>if Nat.beq k 0 then .iptr cs M' else .junk
mutual
def eO (id:Nat) (x:Fz):D→D
 | .own i=>if Nat.beq i id then x.own else .own i
 | .agg cs=>.agg (px id x cs)
 | .tup cs=>.tup (px id x cs)
 | .ptr i k sz M'=>if Nat.beq i id then x.ptr k M' else .ptr i k sz M'
 | .fn f a b=>.fn f (px id x a) (px id x b)
 | .v y=>.v y
 | .nils=>.nils
 | .iptr cs M'=>.iptr cs M'
 | .yld i=>.yld i
 | .capd y=>.capd y
 | .gr i r=>if Nat.beq i id then x.gr r else .gr i r
 | .junk=>.junk
def px (id:Nat) (x:Fz):List D→List D
 | []=>[]
 | d::r=>eO id x d::px id x r
end
def su (id:Nat) (x:Fz):List (Nat×D)→List (Nat×D)
 | []=>[]
 | (t,d)::r=>(t,eO id x d)::su id x r
def qH (id:Nat) (x:Fz):ap→ap
 | .var T cs=>.var T (px id x cs)
 | .loop l tm nt env ps q' bd s p=>.loop l tm nt (su id x env) ps q' bd s p
 | .frame tm env=>.frame tm (su id x env)
 | .ro E sz enc d l=>.ro E sz enc d l
 | .dead=>.dead
 | .arr E sz enc d l=>.arr E sz enc d l
 | .mpb t ag enc d l=>.mpb t ag enc d l
 | .arrD E sz n gs cell=>if gs.all (fun g=>!(Nat.beq g id))then .arrD E sz n gs cell else .arrD E sz n gs (fun i j=>eO id x (cell i j))
 | .grp n f=>.grp n f
 | .nest E sz n ce m f=>.nest E sz n ce m f
def py (id:Nat) (x:Fz):List ap→List ap
 | []=>[]
 | B::r=>qH id x B::py id x r
def p9:List D→Option (List V)
 | []=>some []
 | .v x::r=>match p9 r with
  | some vs=>some (x::vs)
  | none=>none
 | _::_=>none
theorem Ee:∀{cs:List D} {vs:List V},p9 cs=some vs→cs=vs.map D.v
 | [],vs,h=>by simp[p9]at h;subst h;rfl
 | .v x::r,vs,h=>by
  unfold p9 at h
  split at h
  ·rename_i vs' h'
   cases h
   rw[Ee h'];rfl
  ·cases h
 | .nils::_,_,h=>by simp[p9]at h
 | .own _::_,_,h=>by simp[p9]at h
 | .ptr _ _ _ _::_,_,h=>by simp[p9]at h
 | .iptr _ _::_,_,h=>by simp[p9]at h
 | .agg _::_,_,h=>by simp[p9]at h
 | .tup _::_,_,h=>by simp[p9]at h
 | .fn _ _ _::_,_,h=>by simp[p9]at h
 | .yld _::_,_,h=>by simp[p9]at h
 | .capd _::_,_,h=>by simp[p9]at h
 | .junk::_,_,h=>by simp[p9]at h
def ol (id:Nat) (st:St):Option St :=
 match st.heap[id]? with
 | some (.arr _ sz enc d l)=>some ⟨su id (.sl (.sl sz enc d l)) st.env,(py id (.sl (.sl sz enc d l)) st.heap).set id .dead⟩
 | some (.var _ cs)=>match p9 cs with
  | some vs=>some ⟨su id (.vr vs) st.env,(py id (.vr vs) st.heap).set id .dead⟩
  | none=>none
 | some (.mpb _ ag enc d l)=>some ⟨su id (.sl (.sm ag enc d l)) st.env,(py id (.sl (.sm ag enc d l)) st.heap).set id .dead⟩
 | some (.grp _ f)=>some ⟨su id (.gs fun r=>.sl (f r).sz (f r).enc (f r).d (f r).l) st.env,(py id (.gs fun r=>.sl (f r).sz (f r).enc (f r).d (f r).l) st.heap).set id .dead⟩
 | _=>none
section
variable {P:Program} {S S':Nat→Prop} {μ:Nat→Value} {w:World} {id:Nat} {x:Fz}
def Mn (S':Nat→Prop) (μ:Nat→Value) (w:World) (id:Nat):Fz→Prop
 | .sl x=>dM S' w x (μ id)
 | .gs f=>∀(us:Array Value),μ id=.tuple us→∀(r:Nat) (u:Value),us[r]?=some u→dM S' w (f r) u
 | .vr cs=>∀(b M':Nat),aI (μ id)=some b→an S' μ w (.iptr cs M') (.pointer (some ⟨b,M',none⟩))
theorem ka:∀(cs:List D) (j:Nat),(px id x cs)[j]?=(cs[j]?).map (eO id x)
 | [],j=>by simp[px]
 | d::r,0=>by simp[px]
 | d::r,j+1=>by simp[px,ka r j]
theorem fB:∀(cs:List D),(px id x cs).length=cs.length
 | []=>rfl
 | d::r=>by simp[px,fB r]
theorem kb:∀(H:List ap) (j:Nat),(py id x H)[j]?=(H[j]?).map (qH id x)
 | [],j=>by simp[py]
 | d::r,0=>by simp[py]
 | d::r,j+1=>by simp[py,kb r j]
theorem qI:∀{env:List (Nat×D)} {t:Nat} {d:D},(t,d)∈su id x env→∃e,(t,e)∈env∧d=eO id x e
 | (s,e)::r,t,d,h=>by
  rcases Sq.1 h with h | h
  ·cases h;exact⟨e,Se ..,rfl⟩
  ·obtain⟨e',h1,h2⟩:=qI h
   exact⟨e',Sb _ h1,h2⟩
theorem qJ (hx:Mn S' μ w id x) (hS:∀b,S b→S' b) {d:D} {u:Value} (h:an S μ w d u):an S' μ w (eO id x d) u:=by
 induction h with
 | v y u h=>exact .v y u (h.stable (fun b hb _=>hS b hb) (fun _ _ _=>rfl) (RD _))
 | nils=>exact .nils
 | own i =>
  unfold eO
  split
  ·rename_i hi
   rw[RY]at hi
   subst hi
   cases x with
   | sl x=>exact .v _ _ hx
   | vr cs=>exact .junk _
   | gs f=>exact .junk _
  ·exact .own i
 | ptr i k sz M' b h =>
  unfold eO
  split
  ·rename_i hi
   rw[RY]at hi
   subst hi
   cases x with
   | sl x=>exact .junk _
   | gs f=>exact .junk _
   | vr cs =>
    unfold Fz.ptr
    simp only
    split
    ·rename_i hk
     rw[RY]at hk
     subst hk
     rw[Nat.zero_mul,Sp]
     exact hx b M' h
    ·exact .junk _
  ·exact .ptr i k sz M' b h
 | iptr cs M' b o us h1 h2 h3 h4=>exact .iptr cs M' b o us (hS b h1) h2 h3 (fun j y hy=>(h4 j y hy).stable (fun b hb _=>hS b hb) (fun _ _ _=>rfl) (RD _))
 | agg cs us h1 _ ih =>
  refine .agg _ us (by rw[fB];exact h1) (fun j y u hy hu=>?_)
  rw[ka]at hy
  cases hc:cs[j]? with
  | none=>rw[hc]at hy;cases hy
  | some e=>rw[hc]at hy;simp at hy;subst hy;exact ih j e u hc hu
 | tup cs us h1 _ ih =>
  refine .tup _ us (by rw[fB];exact h1) (fun j y u hy hu=>?_)
  rw[ka]at hy
  cases hc:cs[j]? with
  | none=>rw[hc]at hy;cases hy
  | some e=>rw[hc]at hy;simp at hy;subst hy;exact ih j e u hc hu
 | fn f a b us vs h1 _ h2 _ ih1 ih2 =>
  refine .fn f _ _ us vs (by rw[fB];exact h1) (fun j y u hy hu=>?_) (by rw[fB];exact h2) (fun j y u hy hu=>?_)
  ·rw[ka]at hy
   cases hc:a[j]? with
   | none=>rw[hc]at hy;cases hy
   | some e=>rw[hc]at hy;simp at hy;subst hy;exact ih1 j e u hc hu
  ·rw[ka]at hy
   cases hc:b[j]? with
   | none=>rw[hc]at hy;cases hy
   | some e=>rw[hc]at hy;simp at hy;subst hy;exact ih2 j e u hc hu
 | junk u=>exact .junk u
 | yld i l h=>exact .yld i l h
 | capd y p n h=>exact .capd y p n (h.stable (fun b hb _=>hS b hb) (fun _ _ _=>rfl) (RD _))
 | gr g r us u h h1 h2 =>
  unfold eO
  split
  ·rename_i hi
   rw[RY]at hi
   subst hi
   cases x with
   | gs f=>exact .v _ _ (hx us h r u h1)
   | _=>exact .junk _
  ·exact .gr g r us u h h1 h2
end
mutual
theorem Ef {id k:Nat} {x:Fz}:∀d:D,D.free k d=true→D.free k (eO id x d)=true
 | .own i,h=>by
  unfold eO
  split
  ·cases x<;>rfl
  ·exact h
 | .ptr i k' sz M',h=>by
  unfold eO
  split
  ·cases x<;>first | rfl | (simp only[Fz.ptr];split<;>rfl)
  ·exact h
 | .gr i r,h=>by
  unfold eO
  split
  ·cases x<;>rfl
  ·exact h
 | .agg cs,h=>by simp only[eO,D.free];exact qK cs (by simpa only [D.free]using h)
 | .tup cs,h=>by simp only[eO,D.free];exact qK cs (by simpa only [D.free]using h)
 | .fn f a b,h=>by
  simp only[D.free,RA]at h
  simp only[eO,D.free,RA]
  exact⟨qK a h.1,qK b h.2⟩
 | .yld i,h=>h
 | .v _,_=>rfl
 | .nils,_=>rfl
 | .iptr _ _,_=>rfl
 | .capd _,_=>rfl
 | .junk,_=>rfl
theorem qK {id k:Nat} {x:Fz}:∀cs:List D,D.freeL k cs=true→D.freeL k (px id x cs)=true
 | [],_=>rfl
 | c::cs,h=>by
  simp only[D.freeL,RA]at h
  simp only[px,D.freeL,RA]
  exact⟨Ef c h.1,qK cs h.2⟩
end
theorem F3 {id:Nat} {x:Fz} (B:ap):(qH id x B).live=B.live:=by cases B<;>first | rfl | (simp only[qH];split<;>rfl)
theorem Kb {id:Nat} {x:Fz} (B:ap):(qH id x B).isRo=B.isRo:=by cases B<;>first | rfl | (simp only[qH];split<;>rfl)
theorem F4 {id:Nat} {x:Fz} {B:ap} (h:B.isRo=true):qH id x B=B:=by cases B<;>first | rfl | cases h
section
variable {C:kU} {st:St}
theorem bc.freezeX {S:Nat→Prop} {μ:Nat→Value} {a:Act} {w:World} (hR:bc C S μ st a w) {id:Nat} {Z:ap} {z:Fz} (N':st.heap[id]?=some Z) (hZ:Z.live=true) (hx:Mn (fun b=>S b∨bL (μ id) b) μ w id z) :
  bc C (fun b=>S b∨bL (μ id) b) μ ⟨su id z st.env,(py id z st.heap).set id .dead⟩ a w:=by
  have hB:=hR.heap.box id _ N'
  have UE:∀b,bL (μ id) b→C.W.heap.size≤b:=fun b hb=>hR.may id _ b N' hZ hb
  have Un:∀b,bL (μ id) b→b<w.heap.size:=hB.lt hZ
  let S':Nat→Prop:=fun b=>S b∨bL (μ id) b
  have Uh:id<st.heap.length:=(Rz.1 N').1
  have UK:∀(i:Nat) (A:ap),((py id z st.heap).set id .dead)[i]?=some A→A.live=true→i≠id∧∃B,st.heap[i]?=some B∧A=qH id z B∧B.live=true:=by
   intro i A hA hl
   by_cases hi:i=id
   ·subst hi
    rw[RR (by
     have:(py i z st.heap)[i]?=(st.heap[i]?).map _:=kb st.heap i
     rw[N']at this
     exact(Rz.1 this).1)]at hA
    cases hA
    cases hl
   ·rw[RQ (fun e=>hi e.symm),kb]at hA
    cases hc:st.heap[i]? with
    | none=>rw[hc]at hA;cases hA
    | some B =>
     rw[hc]at hA
     simp at hA
     refine⟨hi,B,rfl,hA.symm,?_⟩
     subst hA
     rwa [F3]at hl
  have hgetR:∀(i:Nat) (A:ap),((py id z st.heap).set id .dead)[i]?=some A→A.isRo=true→i≠id∧st.heap[i]?=some A:=by
   intro i A hA hl
   by_cases hi:i=id
   ·subst hi
    rw[RR (by
     have:(py i z st.heap)[i]?=(st.heap[i]?).map _:=kb st.heap i
     rw[N']at this
     exact(Rz.1 this).1)]at hA
    cases hA
    cases hl
   ·rw[RQ (fun e=>hi e.symm),kb]at hA
    cases hc:st.heap[i]? with
    | none=>rw[hc]at hA;cases hA
    | some B =>
     rw[hc]at hA
     simp at hA
     refine⟨hi,?_⟩
     subst hA
     rw[Kb]at hl
     rw[F4 hl]
  show bc C S' μ _ a w
  refine⟨hR.os,hR.tape,hR.output,hR.size,hR.old,fun b hb=>.inl (hR.mono b hb),?_,?_,?_,⟨?_,?_,?_⟩,?_,?_,hR.tsize,?_⟩
  ·rintro b (hb | hb)
   ·exact hR.new b hb
   ·exact .inr (UE b hb)
  ·rintro b (hb | hb)
   ·exact hR.slt b hb
   ·exact Un b hb
  ·intro t e hm
   obtain⟨e',h1,rfl⟩:=qI hm
   obtain⟨q1,q2⟩:=hR.env t e' h1
   exact⟨q1,qJ hx (fun b hb=>.inl hb) q2⟩
  ·intro i A hA
   rcases A.three with rfl | hl | hl
   ·trivial
   rotate_left
   ·obtain⟨hi,UT⟩:=hgetR i A hA hl
    exact(hR.heap.box i A UT).stable (fun b hb _=>.inl hb) (fun _ _ _=>rfl) (RD _) (fun _ _=>rfl) (fun _ _=>rfl) 
   ·obtain⟨hi,B,UJ,rfl,YA⟩:=UK i A hA hl
    have hb:=hR.heap.box i B UJ
    cases B with
    | dead=>cases YA
    | ro=>cases YA
    | arr E2 Ye Yt d2 l2 =>
     exact hb.stable (fun b hb _=>.inl hb) (fun _ _ _=>rfl) (RD _) (fun _ _=>rfl) (fun _ _=>rfl)
    | mpb t2 ag2 Yt d2 l2 =>
     exact hb.stable (fun b hb _=>.inl hb) (fun _ _ _=>rfl) (RD _) (fun _ _=>rfl) (fun _ _=>rfl)
    | nest E2 Ye n ce m f=>exact hb.stable (fun b hb _=>.inl hb) (fun _ _ _=>rfl) (RD _) (fun _ _=>rfl) (fun _ _=>rfl)
    | grp n f=>exact hb.stable (fun b hb _=>.inl hb) (fun _ _ _=>rfl) (RD _) (fun _ _=>rfl) (fun _ _=>rfl)
    | arrD E2 Ye n gs cell =>
     simp only[qH]
     split
     ·exact hb.stable (fun b hb _=>.inl hb) (fun _ _ _=>rfl) (RD _) (fun _ _=>rfl) (fun _ _=>rfl)
     ·obtain⟨h0,xs,h1,h3⟩:=hb
      refine⟨fun i j k hi hj hk=>Ef _ (h0 i j k hi hj hk),xs,h1,fun i j hi hj=>?_⟩
      obtain⟨v,hv,ho,hr⟩:=h3 i j hi hj
      exact⟨v,hv,ho,qJ hx (fun b hb=>.inl hb) hr⟩
    | var T cs =>
     obtain⟨b,vs,e,q1,q2,q3⟩:=hb
     refine⟨b,vs,e,q1,by rw[fB];exact q2,fun j y z hy hz=>?_⟩
     rw[ka]at hy
     cases hc:cs[j]? with
     | none=>rw[hc]at hy;cases hy
     | some y'=>rw[hc]at hy;simp at hy;subst hy;exact qJ hx (fun b hb=>.inl hb) (q3 j y' z hc hz)
    | loop l tm nt env ps q' bd s pe =>
     obtain⟨r,h0,h1,h2,h3,h4,h5,h6,h7,h8,h9⟩:=hb
     refine⟨r,h0,h1,h2,h3,h4,h5,h6,h7,h8,fun t e hm=>?_⟩
     obtain⟨e',k1,rfl⟩:=qI hm
     exact⟨(h9 t e' k1).1,qJ hx (fun b hb=>.inl hb) (h9 t e' k1).2⟩
    | frame tm env =>
     obtain⟨h1,h9⟩:=hb
     refine⟨h1,fun t e hm=>?_⟩
     obtain⟨e',k1,rfl⟩:=qI hm
     exact⟨(h9 t e' k1).1,qJ hx (fun b hb=>.inl hb) (h9 t e' k1).2⟩
  ·intro i j A A' b hA UT hl hl'
   obtain⟨_,B,hB1,_,YA⟩:=UK i A hA hl
   obtain⟨_,B',hB2,_,hBl'⟩:=UK j A' UT hl'
   exact hR.heap.apart i j B B' b hB1 hB2 YA hBl'
  ·intro i A b hA hl hb hs
   obtain⟨hi,B,hB1,_,YA⟩:=UK i A hA hl
   rcases hs with hs | hs
   ·exact hR.heap.notS i B b hB1 YA hb hs
   ·exact hi (hR.heap.apart i id B _ b hB1 N' YA hZ hb hs)
  ·intro i A b hA hl hb
   obtain⟨hi,B,hB1,_,YA⟩:=UK i A hA hl
   exact hR.may i B b hB1 YA hb
  ·obtain⟨mk,d1,d2,d3⟩:=hR.defers
   refine⟨mk,d1,d2,fun b hb=>?_⟩
   obtain⟨q1,q2,q3,q4⟩:=d3 b hb
   refine⟨q1,q2,fun hs=>?_,fun i A hA hl=>?_⟩
   ·rcases hs with hs | hs
    ·exact q3 hs
    ·exact q4 id _ N' hZ hs
   ·obtain⟨hi,B,hB1,_,YA⟩:=UK i A hA hl
    exact q4 i B hB1 YA
  ·intro i A b hA hl
   obtain⟨hi,UT⟩:=hgetR i A hA hl
   exact hR.ro i A b UT hl
theorem bc.freezeZ {S:Nat→Prop} {μ:Nat→Value} {a:Act} {w:World} (hR:bc C S μ st a w) {id:Nat} {Z:ap} {z:Fz} (N':st.heap[id]?=some Z) (hZ:Z.live=true) (hx:Mn (fun b=>S b∨bL (μ id) b) μ w id z) :
  ∃S',bc C S' μ ⟨su id z st.env,(py id z st.heap).set id .dead⟩ a w:=⟨_,hR.freezeX N' hZ hx⟩
theorem bc.freeze {S:Nat→Prop} {μ:Nat→Value} {a:Act} {w:World} (hR:bc C S μ st a w) {id:Nat} {T4:St} (h:ol id st=some T4):∃S',bc C S' μ T4 a w:=by
 unfold ol at h
 split at h
 ·rename_i E sz α enc d l N'
  simp only[RM]at h
  subst h
  exact hR.freezeZ N' rfl (iI (hR.heap.box id _ N') (fun b hb=>.inl hb) (fun b hb=>.inr hb) hR.slt)
 ·rename_i T cs N'
  split at h
  ·rename_i vs VM
   simp only[RM]at h
   subst h
   have hc:=Ee VM
   subst hc
   refine hR.freezeZ N' rfl (fun b M' hb=>?_)
   have hB:=hR.heap.box id _ N'
   have Un:b<w.heap.size:=hB.lt rfl b (.inl hb)
   have Vd:=hB.var_cells hb
   have hv:∀(j:Nat) (y:V),vs[j]?=some y→w.cell? ⟨b,0+j,none⟩=some ((w.cell? ⟨b,0+j,none⟩).getD undef)∧dM S w y ((w.cell? ⟨b,0+j,none⟩).getD undef):=by
    intro j y hy
    obtain⟨u,h1,h2⟩:=Vd j (.v y) (by rw[R3,hy];rfl)
    rw[h1]
    exact⟨rfl,bv h2⟩
   have:=an.iptr (S:=fun b=>S b∨bL (μ id) b) (μ:=μ) (w:=w) vs M' b 0 (fun j=>(w.cell? ⟨b,0+j,none⟩).getD undef) (.inr (.inl hb)) Un (fun j y hy=>(hv j y hy).1) (fun j y hy=>(hv j y hy).2.stable (fun b hb _=>.inl hb) (fun _ _ _=>rfl) (RD _))
   rwa [Sp]at this
  ·cases h
 ·rename_i t ag α enc d l N'
  simp only[RM]at h
  subst h
  exact hR.freezeZ N' rfl (J9 (hR.heap.box id _ N') (fun b hb=>.inl hb) (fun b hb=>.inr hb))
 ·rename_i n f N'
  simp only[RM]at h
  subst h
  refine hR.freezeZ N' rfl (fun us UG r u hu=>?_)
  obtain⟨VH,e,_,h2,_⟩:=hR.heap.box id _ N'
  rw[UG]at e
  cases e
  exact iI (μ:=μ) (E:=(f r).E) (h2 r u hu).2 (fun b hb=>.inl hb) (fun b hb=>.inr (by
   rcases hb with hb | ⟨vs,e,k,x,hk,hx⟩
   ·exact .inr ⟨us,UG,r,u,hu,hb⟩
   ·subst e;have:=(h2 r _ hu).1;cases this)) hR.slt
 ·cases h
mutual
theorem sw {id:Nat} {x:Fz}:∀d:D,D.free id d=true→eO id x d=d
 | .own i,h=>by
  simp only[D.free,Sj]at h
  simp only[eO,h,SC,Ti]
 | .ptr i k sz M',h=>by
  simp only[D.free,Sj]at h
  simp only[eO,h,SC,Ti]
 | .agg cs,h=>by simp only[D.free]at h;simp only[eO,iW cs h]
 | .tup cs,h=>by simp only[D.free]at h;simp only[eO,iW cs h]
 | .fn f a b,h=>by simp only[D.free,RA]at h;simp only[eO,iW a h.1,iW b h.2]
 | .v _,_=>rfl
 | .nils,_=>rfl
 | .iptr _ _,_=>rfl
 | .yld _,_=>rfl
 | .capd _,_=>rfl
 | .gr i r,h=>by
  simp only[D.free,Sj]at h
  simp only[eO,h,SC,Ti]
 | .junk,_=>rfl
theorem iW {id:Nat} {x:Fz}:∀cs:List D,D.freeL id cs=true→px id x cs=cs
 | [],_=>rfl
 | c::cs,h=>by
  simp only[D.freeL,RA]at h
  simp only[px,sw c h.1,iW cs h.2]
end
theorem sx {id:Nat} {x:Fz}:∀{env:List (Nat×D)},b9 id env=true→su id x env=env
 | [],_=>rfl
 | (t,d)::r,h=>by
  simp only[b9,RA]at h
  simp only[su,sw d h.1,sx h.2]
theorem F5 {id:Nat} {x:Fz} (B:ap) (h:ap.free id B=true):qH id x B=B:=by
 cases B with
 | var T cs=>simp only[ap.free]at h;simp only[qH,iW cs h]
 | loop l tm nt env ps a b s p=>simp only[ap.free]at h;simp only[qH,sx h]
 | frame tm env=>simp only[ap.free]at h;simp only[qH,sx h]
 | arrD E sz n gs cell=>simp only[ap.free]at h;simp only[qH,h,Tj]
 | _=>rfl
end
end Go.Proofs.YtckgpflobhpnpaaGreat
namespace Go.Proofs.YtckgpflobhpnpaaGreat
open Go.RowKit
set_option linter.unusedVariables false
set_option linter.unusedSimpArgs false
def Ev (C:kU) (c:Code) (Q:Exit→St→Prop) (st:St):Prop :=
 ∀(a:Act) (w:World) (S:Nat→Prop) (μ:Nat→Value),bc C S μ st a w→c.wpIn (od C.rd) 0 C.P (fun e a' w'=>∃T4 S' μ',Q e T4∧bc C S' μ' T4 a' w') a w
def F6 (P:Program) (st:St):ResultVar→R1
 | .tmp t=>(pD st.env t,True)
 | .cell a T=>match pD st.env a with
  | .ptr id i sz M'=>D2 P T st.heap (.ptr id i sz M')
  | _=>aN
def resL (P:Program) (st:St):List ResultVar→List D×Prop
 | []=>([],True)
 | r::rs=>match F6 P st r with
  | (d,p)=>match resL P st rs with
   | (ds,q)=>(d::ds,p∧q)
def F7 (P:Program) (rs:List ResultVar) (st:St):R1 :=
 match resL P st rs with
 | ([d],p)=>(d,p)
 | (ds,p)=>(.tup ds,p)
def gW (P:Program) (fn:Func) (st:St):Prop:=(F7 P fn.results.toList st).2
def iJ (P:Program) (fn:Func) (st:St):D:=(F7 P fn.results.toList st).1
section
variable {C:kU} {S:Nat→Prop} {μ:Nat→Value} {st:St} {a:Act} {w:World}
theorem bc.resL (h:bc C S μ st a w):∀(rs:List ResultVar) (ds:List D) (p:Prop),Proofs.YtckgpflobhpnpaaGreat.resL C.P st rs=(ds,p)→p →
  ∃us:List Value,(rs.mapM (fun r=>(match r with
   | .tmp t=>pure (a.tmps.getD t undef)
   | .cell x t=>do loadVar t (← asAddr (a.tmps.getD x undef)):Sem Value))).run C.P w=.ok us w∧us.length=ds.length∧∀(j:Nat) (y:D) (u:Value),ds[j]?=some y→us[j]?=some u→an S μ w y u:=by
 intro rs
 induction rs with
 | nil =>
  intro ds p hp _
  simp only[Proofs.YtckgpflobhpnpaaGreat.resL,RI]at hp
  obtain⟨rfl,_⟩:=hp
  exact⟨[],rfl,rfl,fun j y u hy=>by simp at hy⟩
 | cons r rs ih =>
  intro ds p hp G'
  unfold Proofs.YtckgpflobhpnpaaGreat.resL at hp
  generalize h1:F6 C.P st r=q1 at hp
  obtain⟨d1,p1⟩:=q1
  simp only at hp
  generalize h2:Proofs.YtckgpflobhpnpaaGreat.resL C.P st rs=q2 at hp
  obtain⟨ds2,p2⟩:=q2
  simp only[RI]at hp
  obtain⟨rfl,rfl⟩:=hp
  obtain⟨us,e1,e2,e3⟩:=ih ds2 p2 h2 G'.2
  have V2:∃u,((match r with
   | .tmp t=>pure (a.tmps.getD t undef)
   | .cell x t=>do loadVar t (← asAddr (a.tmps.getD x undef)):Sem Value)).run C.P w=.ok u w∧an S μ w d1 u:=by
   cases r with
   | tmp t =>
    simp only[F6,RI]at h1
    obtain⟨rfl,_⟩:=h1
    exact⟨_,rfl,h.eval (.tmp t)⟩
   | cell x T =>
    unfold F6 at h1
    simp only at h1
    split at h1
    ·rename_i id i sz M' hl
     have hv:=h.eval (.tmp x)
     simp only[eX]at hv
     rw[hl]at hv
     obtain⟨u,r1,r2⟩:=tq h.heap hv h1 G'.1
     obtain⟨b,_,hu⟩:=oe hv
     refine⟨u,?_,r2⟩
     have he:a.tmps.getD x undef=.pointer (some ⟨b,i*sz+M',none⟩):=hu
     rw[hu]at r1
     simp only[he]
     simp only[Instr.loadAt,Instr.sureAddr,RG,R5,RF]at r1
     simp only[asAddr,RG,R5,RF]
     exact r1
    ·cases h1;exact G'.1.elim
  obtain⟨u,f1,f2⟩:=V2
  refine⟨u::us,?_,by simp[e2],fun j y v hy hv=>?_⟩
  ·simp only[List.mapM_cons,RG,f1,RF,e1,R5]
  ·cases j with
   | zero=>simp at hy hv;subst hy hv;exact f2
   | succ j=>exact e3 j y v (by simpa using hy) (by simpa using hv)
theorem bc.results (h:bc C S μ st a w) {fn:Func} (G':gW C.P fn st):∃u,(results fn a.tmps).run C.P w=.ok u w∧an S μ w (iJ C.P fn st) u:=by
 unfold gW at G'
 unfold iJ
 generalize hq:Proofs.YtckgpflobhpnpaaGreat.resL C.P st fn.results.toList=q at G' ⊢
 obtain⟨ds,p⟩:=q
 have hp:p:=by
  unfold F7 at G'
  rw[hq]at G'
  split at G'<;>rename_i he<;>cases he<;>exact G'
 obtain⟨us,e1,e2,e3⟩:=h.resL _ _ _ hq hp
 have hm:(fn.results.mapM (fun r=>(match r with
   | .tmp t=>pure (a.tmps.getD t undef)
   | .cell x t=>do loadVar t (← asAddr (a.tmps.getD x undef)):Sem Value))).run C.P w=.ok us.toArray w:=by
  rw[Array.mapM_eq_mapM_toList]
  have hb:∀(s:Sem (List Value)) (r:List Value),s.run C.P w=.ok r w→((s.bind (Sem.pure ∘ List.toArray)):Sem (Array Value)).run C.P w=.ok r.toArray w:=by
   intro s r h
   show Sem.run C.P (s >>= (Sem.pure ∘ List.toArray)) w=_
   rw[RG,h]
   rfl
  exact hb _ _ e1
 refine⟨if h:us.toArray.size=1 then us.toArray[0]else .tuple us.toArray,?_,?_⟩
 ·unfold Go.results
  rw[RG]
  refine(congrArg (fun r=>Result.andThen r _) hm).trans ?_
  rfl
 ·unfold F7
  rw[hq]
  cases ds with
  | nil =>
   have:us=[]:=So e2
   subst this
   exact .tup _ _ rfl (fun j y u hy=>by simp at hy)
  | cons d ds =>
   cases ds with
   | nil =>
    obtain⟨u,rfl⟩:=List.length_eq_one_iff.1 (by simpa using e2)
    exact e3 0 d u rfl rfl
   | cons d2 ds =>
    rw[dif_neg (by simp[e2])]
    exact .tup _ _ (by simp[e2]) (fun j y u hy hu=>e3 j y u hy (by simpa using hu))
end
def i7:Nat→List D→List (Nat×D)
 | _,[]=>[]
 | i,d::r=>(i,d)::i7 (i+1) r
theorem xu:∀{ds:List D} {i t:Nat} {d:D},(t,d)∈i7 i ds→i≤t∧ds[t-i]?=some d
 | d'::r,i,t,d,h=>by
  rcases Sq.1 h with h | h
  ·cases h;exact⟨RD _,by simp⟩
  ·obtain⟨h1,h2⟩:=xu h
   refine⟨by omega,?_⟩
   rw[show t-i=(t-(i+1))+1 from by omega]
   simpa using h2
def vn (us:Array Value) (nt:Nat):Act:={ tmps:=us++Array.replicate (nt-us.size) undef,defers:=[] }
def AP (b:Nat):Deferred:={ target:=.collected b,args:=#[] }
section
variable {C C1:kU} {S:Nat→Prop} {μ:Nat→Value} {st:St} {a a1:Act} {w w':World}
theorem bc.turn (h:bc C S μ st a w) {mk mk1:List Nat} (d2:(mk1++C1.susp).Nodup)
  (d3:∀b∈mk1++C1.susp,w.heap[b]?=some (.deferred (some []))∧C.W.heap.size≤b∧¬S b∧∀(i:Nat) (A:ap),st.heap[i]?=some A→A.live=true→¬bL (μ i) b)
  (hW:C1.W=C.W) (hS:C1.S0=C.S0) (hd:a1.defers=mk1.map fun b=>{ target:=.collected b,args:=#[] }) (ht:a1.tmps.size=C1.nt) {env1:List (Nat×D)}
  (he:∀(t:Nat) (d:D),(t,d)∈env1→t<C1.nt∧an S μ w d (a1.tmps.getD t undef)):bc C1 S μ ⟨env1,st.heap⟩ a1 w :=
 ⟨by rw[hW];exact h.os,by rw[hW];exact h.tape,by rw[hW];exact h.output,by rw[hW];exact h.size,by rw[hW];exact h.old,by rw[hS];exact h.mono,by rw[hS,hW];exact h.new,h.slt,he,h.heap,by rw[hW];exact h.may,
  ⟨mk1,hd,d2,by rw[hW];exact d3⟩,ht,by rw[hW];exact h.ro⟩
theorem bc.back (h:bc C1 S μ st a1 w) {mk:List Nat} (hW:C1.W=C.W) (hS:C1.S0=C.S0) (hs:C1.susp=mk++C.susp) (hd:a.defers=mk.map fun b=>{ target:=.collected b,args:=#[] }) (ht:a.tmps.size=C.nt)
  {env:List (Nat×D)} (he:∀(t:Nat) (d:D),(t,d)∈env→t<C.nt∧an S μ w d (a.tmps.getD t undef)):bc C S μ ⟨env,st.heap⟩ a w:=by
 obtain⟨mk',e1,e2,e3⟩:=h.defers
 rw[hs]at e2 e3
 exact h.turn (mk:=mk') (mk1:=mk) (List.nodup_append.1 e2).2.1 (fun b hb=>e3 b (S9 _ hb)) hW.symm hS.symm hd ht he
theorem bc.heapTo (h:bc C S μ st a w) {H:List ap} (hH:∀(i:Nat) (B:ap),H[i]?=some B→B=.dead∨st.heap[i]?=some B):bc C S μ ⟨st.env,H⟩ a w:=by
 have live:∀(i:Nat) (B:ap),H[i]?=some B→B.live=true→st.heap[i]?=some B:=fun i B hB hl=>by
  rcases hH i B hB with rfl | h1
  ·cases hl
  ·exact h1
 refine⟨h.os,h.tape,h.output,h.size,h.old,h.mono,h.new,h.slt,h.env,⟨fun i B hB=>?_,fun i j A B b hA hB la lb=>h.heap.apart i j A B b (live i A hA la) (live j B hB lb) la lb,fun i A b hA la=>h.heap.notS i A b (live i A hA la) la⟩,
  fun i A b hA la=>h.may i A b (live i A hA la) la,?_,h.tsize,fun i A b hA la=>?_⟩
 ·rcases hH i B hB with rfl | h1
  ·trivial
  ·exact h.heap.box i B h1
 ·obtain⟨mk,d1,d2,d3⟩:=h.defers
  refine⟨mk,d1,d2,fun b hb=>?_⟩
  obtain⟨q1,q2,q3,q4⟩:=d3 b hb
  exact⟨q1,q2,q3,fun i A hA hl=>q4 i A (live i A hA hl) hl⟩
 ·rcases hH i A hA with rfl | h1
  ·cases la
  ·exact h.ro i A b h1 la
theorem bc.shut (h:bc C S μ st a w) {b:Nat} {ds:List Deferred} (hd:a.defers={ target:=.collected b,args:=#[] }::ds) :
  w.heap[b]?=some (.deferred (some []))∧bc C S μ st { a with defers:=ds } (w.putObj b (.deferred none)):=by
 obtain⟨mk,d1,d2,d3⟩:=h.defers
 cases mk with
 | nil=>rw[hd]at d1;cases d1
 | cons b' mk =>
  rw[hd]at d1
  simp only[SJ,SN,Deferred.mk.injEq,Target.collected.injEq,T3]at d1
  obtain⟨rfl,d1⟩:=d1
  obtain⟨q1,q2,q3,q4⟩:=d3 b (by simp)
  have Un:b<w.heap.size:=(RU.1 q1).1
  have Vh:∀k,k≠b→(w.putObj b (.deferred none)).heap[k]?=w.heap[k]?:=fun k hk=>World.putObj_heap_other hk
  have hS:∀k,S k→(w.putObj b (.deferred none)).heap[k]?=w.heap[k]?:=fun k hk=>Vh k (fun e=>q3 (e ▸ hk))
  have Ul:(w.putObj b (.deferred none)).heap.size=w.heap.size:=World.putObj_size
  refine⟨q1,h.os,h.tape,h.output,by rw[Ul];exact h.size,fun k hk=>by rw[Vh k (by omega)];exact h.old k hk,h.mono,h.new,fun k hk=>by rw[Ul];exact h.slt k hk,fun t d hm=>?_,⟨fun i A hA=>?_,h.heap.apart,h.heap.notS⟩,h.may,⟨mk,d1,?_,fun k hk=>?_⟩,h.tsize,h.ro⟩
  ·obtain⟨r1,r2⟩:=h.env t d hm
   exact⟨r1,r2.stable (fun _ h _=>h) (fun k hk _=>hS k hk) (by rw[Ul];exact RD _) (fun _ _=>rfl)⟩
  ·rcases A.three with rfl | hl | hl
   ·trivial
   ·exact(h.heap.box i A hA).stable (fun _ h _=>h) (fun k hk _=>hS k hk) (by rw[Ul];exact RD _) (fun _ _=>rfl) (fun k hk=>Vh k (fun e=>q4 i A hA hl (e ▸ hk)))
   ·exact(h.heap.box i A hA).stable (fun _ h _=>h) (fun k hk _=>hS k hk) (by rw[Ul];exact RD _) (fun _ _=>rfl) (fun k hk=>Vh k (fun e=>by have:=h.ro i A k hA hl hk;omega))
  ·rw[To]at d2
   exact(List.nodup_cons.1 d2).2
  ·obtain⟨r1,r2,r3,r4⟩:=d3 k (by rw[To];exact Sb _ hk)
   have hkb:k≠b:=fun e=>by
    rw[To]at d2
    exact(List.nodup_cons.1 d2).1 (e ▸ hk)
   exact⟨by rw[Vh k hkb];exact r1,r2,r3,r4⟩
theorem bc.leaves {fn:Func} (G':gW C.P fn st) {F:Fence} {R:Ending→World→Prop}:∀(ds:List Deferred) (a:Act) (w:World),a.defers=ds→bc C S μ st a w →
  (∀w' a' u,bc C S μ st a' w'→an S μ w' (iJ C.P fn st) u→R (.returned u) w')→LeavesInM F 0 C.P fn a.tmps R ds .returning w
 | [],a,w,hd,h,hK=>by
  obtain⟨u,h1,h2⟩:=h.results G'
  exact⟨u,h1,hK w a u h h2⟩
 | d::ds,a,w,hd,h,hK=>by
  have YN:∃b,d={ target:=.collected b,args:=#[] }:=by
   obtain⟨mk,d1,_⟩:=h.defers
   rw[hd]at d1
   cases mk with
   | nil=>cases d1
   | cons b mk=>exact⟨b,by simp only[SJ,SN]at d1;exact d1.1⟩
  obtain⟨b,rfl⟩:=YN
  obtain⟨q1,q2⟩:=h.shut hd
  refine⟨by simp,.inl ⟨b,_,rfl,run_takeDeferred q1,?_⟩⟩
  exact bc.leaves G' ds { a with defers:=ds } _ rfl q2 hK
theorem jx {f:FuncId} {fn:Func} {c:Code} (hf:C.P.funcs[f]?=some fn) (hb:fn.body=some c) (Xj:C.rd=none) {us:Array Value} {Q:Exit→St→Prop}
  (hR:bc C S μ st (vn us fn.ntmps) w) (hev:Ev C c Q st) (hQ:∀e T4,Q e T4→(e=.normal∨e=.ret)∧gW C.P fn T4) :
  Calls C.P f us w (fun e w'=>∃u e0 T4 S' μ' a',e=.returned u∧Q e0 T4∧bc C S' μ' T4 a' w'∧an S' μ' w' (iJ C.P fn T4) u):=by
 have h:=hev _ w S μ hR
 rw[Xj]at h
 refine callsIn_wide.1 (callsIn_of_wp_marks (n:=0) hf hb trivial (wpIn_mono h ?_))
 rintro e a' w' ⟨T4,S',μ',hq,U0⟩
 obtain⟨he,G'⟩:=hQ e T4 hq
 have key:LeavesInM Fence.wide 0 C.P fn a'.tmps (fun e w'=>∃u e0 T4 S' μ' a',e=.returned u∧Q e0 T4∧bc C S' μ' T4 a' w'∧an S' μ' w' (iJ C.P fn T4) u) a'.defers .returning w' :=
  U0.leaves G' a'.defers a' w' rfl (fun w2 a2 u XB hu=>⟨u,e,T4,S',μ',a2,rfl,hq,XB,hu⟩)
 rcases he with rfl | rfl
 ·exact key
 ·exact key
end
theorem uq {S:Nat→Prop} {μ:Nat→Value} {w:World} {ds:List D} {us:Array Value} (h:aM S μ w ds us) {nt:Nat} (hn:ds.length≤nt):∀(t:Nat) (d:D),(t,d)∈i7 0 ds→t<nt∧an S μ w d ((vn us nt).tmps.getD t undef):=by
 intro t d hm
 obtain⟨_,h2⟩:=xu hm
 rw[Nat.sub_zero]at h2
 have ht:=(Rz.1 h2).1
 refine⟨by omega,?_⟩
 have Un:t<us.size:=by rw[h.1];exact ht
 have:(us++Array.replicate (nt-us.size) undef).getD t undef=us[t]:=by
  simp only[Sx]
  rw[Array.getElem?_append_left Un]
  simp[Un]
 show an S μ w d ((us++Array.replicate (nt-us.size) undef).getD t undef)
 rw[this]
 exact h.2 t d _ h2 (R0 Un)
theorem qL {ds:List D} {us:Array Value} (h:us.size=ds.length) {nt:Nat} (hn:ds.length≤nt):(vn us nt).tmps.size=nt:=by
 show(us++Array.replicate (nt-us.size) undef).size=nt
 simp
 omega
end Go.Proofs.YtckgpflobhpnpaaGreat
namespace Go.Proofs.YtckgpflobhpnpaaGreat
open Go.RowKit
set_option linter.unusedVariables false
set_option linter.unusedSimpArgs false
def V.flat:V→Bool
 | .int _ _=>true
 | .bool _=>true
 | .str _=>true
 | .nilf=>true
 | _=>false
def qM:ap→Prop
 | .arr _ _ enc _ l=>∀x∈l,∀y∈enc x,y.flat=true
 | _=>False
theorem dM.flat {S S':Nat→Prop} {w:World} {x:V} {u:Value} (h:dM S w x u) (hx:x.flat=true):dM S' w x u:=by
 cases h<;>first | (cases hx;done) | constructor
theorem aH.flat {S S':Nat→Prop} {μ μ':Nat→Value} {w:World} {u:Value} {B:ap} (h:aH S μ w u B) (hB:qM B):aH S' μ' w u B:=by
 cases B with
 | arr E sz enc d l =>
  obtain⟨h0,xs,h1,h3⟩:=h
  refine⟨h0,xs,h1,fun i x j y hx hy=>?_⟩
  obtain⟨z,hz,hr⟩:=h3 i x j y hx hy
  exact⟨z,hz,hr.flat (hB x (Sf hx) y (Sf hy))⟩
 | _=>exact hB.elim
theorem xv {B:ap} (h:qM B):B.isArr=true:=by
 cases B<;>first | rfl | exact h.elim
def scal:D→Bool
 | .v x=>x.flat
 | _=>false
def xw:List D→Bool
 | []=>true
 | .own i::cs=>Nat.beq i 0&&xw cs
 | c::cs=>scal c&&xw cs
def CM:D→Bool
 | .own i=>Nat.beq i 0
 | .gr i _=>Nat.beq i 0
 | .agg cs=>xw cs
 | _=>false
def Q3 (n:Nat):D→D
 | .own _=>.own n
 | d=>d
def D.up (n:Nat):D→D
 | .own _=>.own n
 | .gr _ r=>.gr n r
 | .agg cs=>.agg (cs.map (Q3 n))
 | d=>d
theorem xx:∀{cs:List D} {j:Nat} {c:D},xw cs=true→cs[j]?=some c→c=.own 0∨scal c=true
 | [],j,c,_,h=>by simp at h
 | x::cs,0,c,h,hc=>by
  simp at hc
  subst hc
  cases x<;>simp only[xw,RA]at h<;>first | exact .inr h.1 | (have:=RY.mp h.1;subst this;exact .inl rfl)
 | x::cs,j+1,c,h,hc=>by
  refine xx (cs:=cs) (j:=j) ?_ (by simpa using hc)
  cases x<;>simp only[xw,RA]at h<;>exact h.2
theorem Kc {S S':Nat→Prop} {μ μ':Nat→Value} {w:World} {c:D} {u:Value} {n:Nat} (h:an S μ w c u) (hc:c=.own 0∨scal c=true) (hm:μ' n=μ 0):an S' μ' w (Q3 n c) u:=by
 rcases hc with rfl | hc
 ·cases h
  rw[← hm]
  exact .own n
 ·cases c<;>first | cases hc | skip
  cases h with
  | v _ _ h=>exact .v _ _ (h.flat hc)
theorem CP {S S':Nat→Prop} {μ μ':Nat→Value} {w:World} {r:D} {u:Value} {n:Nat} (h:an S μ w r u) (hr:CM r=true) (hm:μ' n=μ 0):an S' μ' w (r.up n) u:=by
 cases r<;>first | cases hr | skip
 ·rename_i i
  have:=RY.mp hr
  subst this
  cases h
  rw[← hm]
  exact .own n
 ·rename_i cs
  cases h with
  | agg _ us h1 h2 =>
   refine .agg _ us (by rw[RJ];exact h1) (fun j y x hy hx=>?_)
   rw[R3,Option.map_eq_some_iff]at hy
   obtain⟨c,hc,rfl⟩:=hy
   exact Kc (h2 j c x hc hx) (xx hr hc) hm
 ·rename_i i r
  have:=RY.mp hr
  subst this
  cases h with
  | gr _ _ us _ h1 h2 h3=>exact .gr n r us u (by rw[hm];exact h1) h2 h3
theorem aH.arrMu {S:Nat→Prop} {μ μ':Nat→Value} {w:World} {u:Value} {B:ap} (h:aH S μ w u B) (hB:B.isOwn=true):aH S μ' w u B:=by
 cases B<;>first | (cases hB;done) | exact h
theorem mI {w:World} {E sz n b:Nat} {u:Value} {xs:List Value} (h:w.ownsRow 0 E sz u n xs) (hb:aI u=some b):∃cs T x,w.heap[b]?=some (.cells cs T x):=by
 obtain⟨_,h2⟩:=h
 rcases h2 with ⟨rfl,_⟩ | ⟨g,cap,UH,rfl,hg,hh2,r⟩
 ·simp[aI]at hb
 ·simp[aI]at hb
  subst hb
  exact⟨_,_,_,hh2⟩
theorem aH.ownBlk {S:Nat→Prop} {μ:Nat→Value} {w:World} {u:Value} {B:ap} {b:Nat} (h:aH S μ w u B) (hB:B.isOwn=true) (hb:bL u b):∃cs T x,w.heap[b]?=some (.cells cs T x):=by
 cases B<;>first | (cases hB;done) | skip
 ·obtain⟨_,xs,h2,_⟩:=h
  refine mI h2 ?_
  rcases hb with hb | ⟨us,rfl,_⟩
  ·exact hb
  ·rcases h2.2 with ⟨h2,_⟩ | ⟨_,_,_,h2,_⟩<;>cases h2
 ·obtain⟨us,rfl,h1,⟨v0,xs,g1,g2,g3,g4⟩,h2,h3⟩:=h
  rcases hb with hb | ⟨VH,he,k,x,hx,hb⟩
  ·simp[aI]at hb
  ·cases he
   cases k with
   | zero=>rw[g1]at hx;cases hx;exact mI g3 hb
   | succ k=>obtain⟨_,_,xs,h,_⟩:=h2 k x hx;exact mI h hb
section
variable {C:kU} {S:Nat→Prop} {μ:Nat→Value} {st:St} {a:Act} {w:World}
theorem bc.addBoxA (h:bc C S μ st a w) (hf:b9 st.heap.length st.env=true) (hh:bQ st.heap.length st.heap=true) {B:ap} {u:Value} (ZJ:B.isOwn=true) {μ1:Nat→Value} (N':aH S μ1 w u B)
  (UE:∀b,bL u b→C.W.heap.size≤b∧¬S b∧∀(i:Nat) (A:ap),st.heap[i]?=some A→A.live=true→¬bL (μ i) b):bc C S (aZ μ st.heap.length u) ⟨st.env,st.heap++[B]⟩ a w:=by
 have Ux:∀i,i<st.heap.length→aZ μ st.heap.length u i=μ i:=fun i hi=>aG _ _ (by omega)
 have U6:∀(i:Nat) (A:ap),(st.heap++[B])[i]?=some A→(i<st.heap.length∧st.heap[i]?=some A)∨(i=st.heap.length∧A=B):=by
  intro i A hA
  by_cases hi:i<st.heap.length
  ·rw[RP hi]at hA
   exact .inl ⟨hi,hA⟩
  ·rw[RT (by omega)]at hA
   by_cases e:i-st.heap.length=0
   ·rw[e]at hA
    simp at hA
    exact .inr ⟨by omega,hA.symm⟩
   ·obtain⟨k,hk⟩:∃k,i-st.heap.length=k+1:=⟨i-st.heap.length-1,by omega⟩
    rw[hk]at hA
    simp at hA
 refine⟨h.os,h.tape,h.output,h.size,h.old,h.mono,h.new,h.slt,?_,⟨?_,?_,?_⟩,?_,?_,h.tsize,?_⟩
 ·intro t d hm
  obtain⟨q1,q2⟩:=h.env t d hm
  exact⟨q1,q2.stable (fun _ h _=>h) (fun _ _ _=>rfl) (RD _) (fun id Uh=>aG _ _ (fun e=>by rw[e,ct hf hm]at Uh;cases Uh))⟩
 ·intro i A hA
  rcases U6 i A hA with ⟨hi,hA⟩ | ⟨rfl,rfl⟩
  ·rw[Ux i hi]
   exact(h.heap.box i A hA).stable (fun _ h _=>h) (fun _ _ _=>rfl) (RD _) (fun id Uh=>aG _ _ (fun e=>by rw[e,cu hh hA]at Uh;cases Uh)) (fun _ _=>rfl)
  ·rw[ay]
   exact N'.arrMu ZJ
 ·intro i j A A' b hA UT la Yy hb UN
  have g1:=U6 i A hA
  have g2:=U6 j A' UT
  clear hA UT
  rcases g1 with ⟨hi,hA⟩ | ⟨ei,eA⟩<;>rcases g2 with ⟨hj,UT⟩ | ⟨ej,eA'⟩
  ·rw[Ux i hi]at hb;rw[Ux j hj]at UN
   exact h.heap.apart i j A A' b hA UT la Yy hb UN
  ·rw[Ux i hi]at hb;rw[ej,ay]at UN
   exact((UE b UN).2.2 i A hA la hb).elim
  ·rw[Ux j hj]at UN;rw[ei,ay]at hb
   exact((UE b hb).2.2 j A' UT Yy UN).elim
  ·rw[ei,ej]
 ·intro i A b hA la hb
  rcases U6 i A hA with ⟨hi,hA⟩ | ⟨rfl,rfl⟩
  ·rw[Ux i hi]at hb
   exact h.heap.notS i A b hA la hb
  ·rw[ay]at hb
   exact(UE b hb).2.1
 ·intro i A b hA la hb
  rcases U6 i A hA with ⟨hi,hA⟩ | ⟨rfl,rfl⟩
  ·rw[Ux i hi]at hb
   exact h.may i A b hA la hb
  ·rw[ay]at hb
   exact(UE b hb).1
 ·obtain⟨mk,e1,e2,e3⟩:=h.defers
  refine⟨mk,e1,e2,fun b hb=>?_⟩
  obtain⟨g1,g2,g3,g4⟩:=e3 b hb
  refine⟨g1,g2,g3,fun i A hA la Vn=>?_⟩
  rcases U6 i A hA with ⟨hi,hA⟩ | ⟨rfl,rfl⟩
  ·rw[Ux i hi]at Vn
   exact g4 i A hA la Vn
  ·rw[ay]at Vn
   obtain⟨cs,T,x,hh2⟩:=N'.ownBlk ZJ Vn
   rw[hh2]at g1
   simp at g1
 ·intro i A b hA la hb
  rcases U6 i A hA with ⟨hi,hA⟩ | ⟨rfl,rfl⟩
  ·rw[Ux i hi]at hb
   exact h.ro i A b hA la hb
  ·cases A<;>first | (cases ZJ;done) | cases la
theorem bc.addBox (h:bc C S μ st a w) (hf:b9 st.heap.length st.env=true) (hh:bQ st.heap.length st.heap=true) {B:ap} {u:Value} (X5:qM B) {S1:Nat→Prop} {μ1:Nat→Value} (N':aH S1 μ1 w u B)
  (UE:∀b,bL u b→C.W.heap.size≤b∧¬S b∧∀(i:Nat) (A:ap),st.heap[i]?=some A→A.live=true→¬bL (μ i) b):bc C S (aZ μ st.heap.length u) ⟨st.env,st.heap++[B]⟩ a w :=
 h.addBoxA hf hh (ap.isOwn_arr (xv X5)) (μ1:=μ) (N'.flat X5) UE
def yU (P:Program) (g:FuncId) (H:List ap) (ds:List D) (q':Option (List D)) (r:D) (B:ap):Prop :=
 match q' with
 | none=>qM B∧ah P g ds [] false r [B]
 | some q'=>qM B∧wS H ds q'∧ah P g q' [] false r [B]
theorem bc.callCoreO (h:bc C S μ st a w) {f:FuncId} {q':List D} {r:D} {B:ap} {us:Array Value} (X5:qM B) (hc:ah C.P f q' [] false r [B]) {S1:Nat→Prop} (h1:∀b,S b→S1 b) (h2:∀b,S1 b→b<w.heap.size)
  (UG:aM S1 μ w q' us) (hr:CM r=true) (hf:b9 st.heap.length st.env=true) (hh:bQ st.heap.length st.heap=true) {K:Value→World→Prop} (hK:∀S' μ' u w',bc C S' μ' ⟨st.env,st.heap++[B]⟩ a w'→an S' μ' w' (r.up st.heap.length) u→K u w') :
  Calls C.P f us w (fun e w'=>∃u,e=.returned u∧K u w'):=by
 have slt:=h.slt
 refine(hc S1 μ w us h2 (h.glob.stable (fun b hb _=>h1 b hb) (fun _ _ _=>rfl) (RD _)) ⟨fun id B hB=>by simp at hB,fun i j A B b hA=>by simp at hA,fun i A b hA=>by simp at hA⟩ UG).mono ?_
 rintro e w' ⟨u,μ',S',rfl,q1,q2,q3,q4,q5,q6,q7,q8,q9,q10,q11,_⟩
 have hR:bc C S μ st a w':=h.grow q1 q2 q3 q4 (fun k hk=>q5 k hk (fun i A hA=>by simp at hA)) (fun b hb=>hb) (fun b hb=>.inl hb) (fun b hb=>SA (slt b hb) q4)
 have N':=q10.box 0 B rfl
 have hl:B.live=true:=by have:=xv X5;cases B<;>first | rfl | cases this
 refine⟨u,rfl,hK S (aZ μ st.heap.length (μ' 0)) u w' (hR.addBox hf hh X5 N' (fun b hb=>?_)) (CP q9 hr (ay _ _ _))⟩
 have UE:w.heap.size≤b:=by
  rcases q11 0 B b rfl hl hb with hb | ⟨j,A',UT,_⟩
  ·exact hb
  ·simp at UT
 refine⟨SG h.size UE,fun hS=>by have:=slt b hS;omega,fun i A hA la Vn=>?_⟩
 have:=(h.heap.box i A hA).lt la b Vn
 omega
theorem bc.callOwn (h:bc C S μ st a w) {f:FuncId} {ds:List D} {q':Option (List D)} {r:D} {B:ap} {us:Array Value} (hc:yU C.P f st.heap ds q' r B) (UG:aM S μ w ds us) (hr:CM r=true)
  (hf:b9 st.heap.length st.env=true) (hh:bQ st.heap.length st.heap=true) {K:Value→World→Prop} (hK:∀S' μ' u w',bc C S' μ' ⟨st.env,st.heap++[B]⟩ a w'→an S' μ' w' (r.up st.heap.length) u→K u w') :
  Calls C.P f us w (fun e w'=>∃u,e=.returned u∧K u w'):=by
 cases q' with
 | none=>exact h.callCoreO hc.1 hc.2 (fun _ h=>h) h.slt UG hr hf hh hK
 | some q' =>
  obtain⟨X5,YL,hc⟩:=hc
  have slt:=h.slt
  have hSc:∀b,(S b∨∃(i:Nat) (A:ap),st.heap[i]?=some A∧A.mem=true∧bL (μ i) b)→b<w.heap.size:=by
   rintro b (hb | ⟨i,A,hA,hl,hb⟩)
   ·exact slt b hb
   ·exact(h.heap.box i A hA).lt (ap.mem_live hl) b hb
  refine h.callCoreO X5 hc (S1:=fun b=>S b∨∃(i:Nat) (A:ap),st.heap[i]?=some A∧A.mem=true∧bL (μ i) b) (fun b hb=>.inl hb) hSc ?_ hr hf hh hK
  exact kZ h.heap (fun b hb=>.inl hb) slt (.inl (fun i A b hA hl hb=>.inr ⟨i,A,hA,hl,hb⟩)) YL UG
def ur (P:Program) (g:FuncId) (H:List ap) (ds:List D) (q':Option (List D)) (r:D) (B:ap):Prop :=
 match q' with
 | none=>ah P g ds [] false r [B]
 | some q'=>wS H ds q'∧ah P g q' [] false r [B]
theorem bc.callDeep (h:bc C S μ st a w) {f:FuncId} {ds:List D} {q':Option (List D)} {r:D} {B:ap} {us:Array Value} (hc:ur C.P f st.heap ds q' r B) (UG:aM S μ w ds us) (hr:CM r=true) (hB:B.isOwn=true) (U':fN ds=true)
  (hf:b9 st.heap.length st.env=true) (hh:bQ st.heap.length st.heap=true) {K:Value→World→Prop} (hK:∀S' μ' u w',bc C S' μ' ⟨st.env,st.heap++[B]⟩ a w'→an S' μ' w' (r.up st.heap.length) u→K u w') :
  Calls C.P f us w (fun e w'=>∃u,e=.returned u∧K u w'):=by
 obtain⟨X4,hc',YK⟩:∃X4,ah C.P f X4 [] false r [B]∧aM S μ w X4 us:=by
  cases q' with
  | none=>exact⟨ds,hc,UG⟩
  | some q'=>exact⟨q',hc.2,kZ h.heap (fun _ h=>h) h.slt (.inr U') hc.1 UG⟩
 have slt:=h.slt
 refine(hc' S μ w us slt h.glob ⟨fun id B hB=>by simp at hB,fun i j A B b hA=>by simp at hA,fun i A b hA=>by simp at hA⟩ YK).mono ?_
 rintro e w' ⟨u,μ',S',rfl,q1,q2,q3,q4,q5,q6,q7,q8,q9,q10,q11,_⟩
 have hR:bc C S' μ st a w':=h.grow q1 q2 q3 q4 (fun k hk=>q5 k hk (fun i A hA=>by simp at hA)) q6 q7 q8
 have N':=q10.box 0 B rfl
 have hl:B.live=true:=by cases B<;>first | rfl | cases hB
 refine⟨u,rfl,hK S' (aZ μ st.heap.length (μ' 0)) u w' (hR.addBoxA hf hh hB N' (fun b hb=>?_)) (CP q9 hr (ay _ _ _))⟩
 have UE:w.heap.size≤b:=by
  rcases q11 0 B b rfl hl hb with hb | ⟨j,A',UT,_⟩
  ·exact hb
  ·simp at UT
 refine⟨SG h.size UE,q10.notS 0 B b rfl hl hb,fun i A hA la Vn=>?_⟩
 have:=(h.heap.box i A hA).lt la b Vn
 omega
def Hp (j i:Nat):List (Nat×D)→Option (List (Nat×D))
 | []=>some []
 | (t,d)::r=>match Hp j i r with
  | some r'=>match d with
   | .own k=>if Nat.beq k j then some ((t,.own i)::r')else if Nat.beq k i then none else some ((t,.own k)::r')
   | d=>if D.free j d&&D.free i d then some ((t,d)::r')else none
  | none=>none
theorem AQ {j i:Nat}:∀{env Wm:List (Nat×D)} {t:Nat} {d':D},Hp j i env=some Wm→(t,d')∈Wm→∃d,(t,d)∈env∧((d=.own j∧d'=.own i)∨(d'=d∧D.free j d=true∧D.free i d=true))
 | [],Wm,t,d',h,hm=>by
  simp only[Hp,RM]at h
  subst h
  simp at hm
 | (s,e)::r,Wm,t,d',h,hm=>by
  unfold Hp at h
  split at h
  ·rename_i r' hr'
   have tail:(t,d')∈r'→∃d,(t,d)∈(s,e)::r∧((d=.own j∧d'=.own i)∨(d'=d∧D.free j d=true∧D.free i d=true)):=fun hm=>by
    obtain⟨d,h1,h2⟩:=AQ hr' hm
    exact⟨d,Sb _ h1,h2⟩
   split at h
   ·rename_i k
    split at h
    ·rename_i hk
     simp only[RM]at h
     subst h
     rcases Sq.1 hm with hm | hm
     ·cases hm
      have:=RY.mp hk
      subst this
      exact⟨_,Se ..,.inl ⟨rfl,rfl⟩⟩
     ·exact tail hm
    ·rename_i hk
     split at h
     ·cases h
     ·rename_i V0
      simp only[RM]at h
      subst h
      rcases Sq.1 hm with hm | hm
      ·cases hm
       refine⟨_,Se ..,.inr ⟨rfl,?_,?_⟩⟩
       ·simp only[D.free];simp only[TH]at hk;rw[hk];rfl
       ·simp only[D.free];simp only[TH]at V0;rw[V0];rfl
      ·exact tail hm
   ·split at h
    ·rename_i hc
     simp only[RA]at hc
     simp only[RM]at h
     subst h
     rcases Sq.1 hm with hm | hm
     ·cases hm
      exact⟨_,Se ..,.inr ⟨rfl,hc.1,hc.2⟩⟩
     ·exact tail hm
    ·cases h
  ·cases h
def Eg (j i:Nat) (st:St):Option St :=
 if bQ i st.heap&&bQ j st.heap&&!(Nat.beq i j)&&Nat.blt i st.heap.length then
  match st.heap[j]? with
  | some (.arr E sz enc d l)=>match Hp j i st.env with
   | some env=>some ⟨env,(st.heap.set i (.arr E sz enc d l)).set j .dead⟩
   | none=>none
  | _=>none
 else none
theorem bc.move (h:bc C S μ st a w) {j i:Nat} {T4:St} (hm:Eg j i st=some T4):bc C S (aZ μ i (μ j)) T4 a w:=by
 unfold Eg at hm
 split at hm
 ·rename_i hc
  simp only[RA,Sj,TS]at hc
  obtain⟨⟨⟨fi,fj⟩,hij⟩,Un⟩:=hc
  have hij:i≠j:=fun e=>by rw[e]at hij;simp at hij
  split at hm
  ·rename_i E sz α enc d l hj
   split at hm
   ·rename_i env he
    simp only[RM]at hm
    subst hm
    have hjl:j<st.heap.length:=(Rz.1 hj).1
    have U6:∀(k:Nat) (A:ap),((st.heap.set i (ap.arr E sz enc d l)).set j .dead)[k]?=some A→(k=j∧A=.dead)∨(k=i∧A=ap.arr E sz enc d l)∨(k≠i∧k≠j∧st.heap[k]?=some A):=by
     intro k A hA
     by_cases e1:k=j
     ·subst e1
      rw[RR (by rw[Sw];exact hjl)]at hA
      exact .inl ⟨rfl,by cases hA;rfl⟩
     ·rw[RQ (fun e=>e1 e.symm)]at hA
      by_cases e2:k=i
      ·subst e2
       rw[RR Un]at hA
       exact .inr (.inl ⟨rfl,by cases hA;rfl⟩)
      ·rw[RQ (fun e=>e2 e.symm)]at hA
       exact .inr (.inr ⟨e2,e1,hA⟩)
    have U8:(ap.arr E sz enc d l).live=true:=rfl
    have Y4:∀k,k≠i→aZ μ i (μ j) k=μ k:=fun k hk=>aG _ _ hk
    refine⟨h.os,h.tape,h.output,h.size,h.old,h.mono,h.new,h.slt,?_,⟨?_,?_,?_⟩,?_,?_,h.tsize,?_⟩
    ·intro t d' XJ
     obtain⟨d0,h0,hd⟩:=AQ he XJ
     obtain⟨q1,q2⟩:=h.env t d0 h0
     refine⟨q1,?_⟩
     rcases hd with ⟨rfl,rfl⟩ | ⟨rfl,g1,g2⟩
     ·generalize hu:a.tmps.getD t undef=u at q2
      cases q2
      have:=an.own (S:=S) (μ:=aZ μ i (μ j)) (w:=w) i
      rwa [ay]at this
     ·exact q2.stable (fun _ h _=>h) (fun _ _ _=>rfl) (RD _) (fun id Uh=>Y4 id (fun e=>by rw[e,g2]at Uh;cases Uh))
    ·intro k A hA
     rcases U6 k A hA with ⟨rfl,rfl⟩ | ⟨rfl,rfl⟩ | ⟨h1,h2,hA⟩
     ·trivial
     ·rw[ay]
      exact(h.heap.box j _ hj).stable (fun _ h _=>h) (fun _ _ _=>rfl) (RD _) (fun id Uh=>by cases Uh) (fun _ _=>rfl)
     ·rw[Y4 k h1]
      exact(h.heap.box k A hA).stable (fun _ h _=>h) (fun _ _ _=>rfl) (RD _) (fun id Uh=>Y4 id (fun e=>by rw[e,cu fi hA]at Uh;cases Uh)) (fun _ _=>rfl)
    ·intro k m A A' b hA UT la Yy hb UN
     have g1:=U6 k A hA
     have g2:=U6 m A' UT
     clear hA UT
     rcases g1 with ⟨rfl,rfl⟩ | ⟨rfl,rfl⟩ | ⟨h1,h2,hA⟩<;>rcases g2 with ⟨rfl,rfl⟩ | ⟨rfl,rfl⟩ | ⟨h3,h4,UT⟩<;>first | (cases la;done) | (cases Yy;done) | rfl | skip
     ·rw[ay]at hb;rw[Y4 m h3]at UN
      exact(h4 (h.heap.apart j m _ _ b hj UT U8 Yy hb UN).symm).elim
     ·rw[ay]at UN;rw[Y4 k h1]at hb
      exact(h2 (h.heap.apart k j _ _ b hA hj la U8 hb UN)).elim
     ·rw[Y4 k h1]at hb;rw[Y4 m h3]at UN
      exact h.heap.apart k m A A' b hA UT la Yy hb UN
    ·intro k A b hA la hb
     rcases U6 k A hA with ⟨rfl,rfl⟩ | ⟨rfl,rfl⟩ | ⟨h1,h2,hA⟩
     ·cases la
     ·rw[ay]at hb;exact h.heap.notS j _ b hj U8 hb
     ·rw[Y4 k h1]at hb;exact h.heap.notS k A b hA la hb
    ·intro k A b hA la hb
     rcases U6 k A hA with ⟨rfl,rfl⟩ | ⟨rfl,rfl⟩ | ⟨h1,h2,hA⟩
     ·cases la
     ·rw[ay]at hb;exact h.may j _ b hj U8 hb
     ·rw[Y4 k h1]at hb;exact h.may k A b hA la hb
    ·obtain⟨mk,e1,e2,e3⟩:=h.defers
     refine⟨mk,e1,e2,fun b hb=>?_⟩
     obtain⟨g1,g2,g3,g4⟩:=e3 b hb
     refine⟨g1,g2,g3,fun k A hA la Vn=>?_⟩
     rcases U6 k A hA with ⟨rfl,rfl⟩ | ⟨rfl,rfl⟩ | ⟨h1,h2,hA⟩
     ·cases la
     ·rw[ay]at Vn;exact g4 j _ hj U8 Vn
     ·rw[Y4 k h1]at Vn;exact g4 k A hA la Vn
    ·intro k A b hA la hb
     rcases U6 k A hA with ⟨rfl,rfl⟩ | ⟨rfl,rfl⟩ | ⟨h1,h2,hA⟩
     ·cases la
     ·cases la
     ·rw[Y4 k h1]at hb;exact h.ro k A b hA la hb
   ·cases hm
  ·cases hm
 ·cases hm
end
end Go.Proofs.YtckgpflobhpnpaaGreat
