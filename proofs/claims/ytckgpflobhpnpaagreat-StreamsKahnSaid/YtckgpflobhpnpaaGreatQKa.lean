/-
  Values, memory and effects on pure data. Generic: over any program.
-/
import Derived.Test.YtckgpflobhpnpaaGreatQReg
import Derived.OrdersIn
import Derived.TacticsIn
import Derived.RangeFuncRecord
import Derived.RangeFuncCalls
import Derived.WalkSpells
import Derived.Lib.Hide
import Derived.WalkLawsBesides
import Derived.Laws.AppendOwnNone
import Derived.Laws.StructEq
namespace Go.Proofs.YtckgpflobhpnpaaGreat
open Go.RowKit
set_option linter.unusedVariables false
set_option linter.unusedSimpArgs false
def nh:Option Nat→Fence
 | none=>Fence.wide
 | some l=>Fence.wide.inRound l
theorem pB (rd:Option Nat) (f:FuncId):(nh rd).fn f:=by cases rd<;>trivial
theorem vR (rd:Option Nat):(nh rd).depth=none:=by cases rd<;>rfl
theorem An (P:Program) (rd:Option Nat):Machine.fenced P (nh rd)=Machine.fenced P Fence.wide:=by cases rd<;>rfl
theorem yR {rd:Option Nat} {n:Nat} {P:Program} {f:FuncId} {args:Array Value} {w:World} {R:Ending→World→Prop} (h:Calls P f args w R):CallsIn (nh rd) n P f args w R:=by
 have h':CallsIn Fence.wide n P f args w R:=callsIn_wide.2 h
 cases rd with
 | none=>exact h'
 | some l=>exact h'.inRound l
theorem Ao {rd:Option Nat} {n:Nat} {P:Program} {row:String} {args:Array Value} {w:World} {R:Value→World→Prop} (h:Rows P row args w R):RowsIn (nh rd) n P row args w R :=
 fun c cs _=>let ⟨v, w', r, s⟩:=h c cs;⟨v, w', r, by rw[An];exact stepsIn_wide.2 s⟩
theorem jh {rd:Option Nat} {P:Program} {o:Oper} {a:Act} {K:Act→World→Prop} {Q:Exit→Act→World→Prop} {r:Result Next} (h:o.upon P a K Q r):o.uponIn (nh rd) 0 P a K Q r:=by
 have hd:(nh rd).depth.isSome=true→1≤0:=fun h=>by rw[vR]at h;cases h
 cases r with
 | ok x w' =>
  cases x<;>simp only[Oper.upon]at h<;>simp only[Oper.uponIn]<;>first
   | exact h
   | exact⟨hd, yR h⟩
   | exact⟨hd, Ao h⟩
   | exact h.elim
 | halt x w'=>cases x<;>simp only[Oper.upon]at h<;>simp only[Oper.uponIn]<;>exact h
def cI (o:Oper):Bool :=
 match o.op with
 | .defer _=>true
 | _=>false
def BX (ops:Array Oper):Prop:=∀(i:Nat) (o:Oper), ops[i]?=some o→cI o=false
theorem DG {o:Oper} (h:cI o=false) (rd:Option Nat) (ρ:Operand→Value):o.semAt rd ρ=execOp ρ o:=by
 cases rd with
 | none=>exact Oper.semAt_none ..
 | some l =>
  refine Oper.semAt_some l ρ o (fun c hc=>?_)
  unfold cI at h
  rw[hc]at h
  cases h
theorem tp {rd:Option Nat} {P:Program} {o:Oper} {a:Act} {w:World} {K:Act→World→Prop} {Q:Exit→Act→World→Prop} (hd:cI o=false) (h:o.uponIn (nh rd) 0 P a K Q ((execOp a.eval o).run P w)):o.wpIn (nh rd) 0 P a w K Q :=
 ⟨fun f _=>pB rd f, by rw[DG hd];exact h⟩
theorem Lw {rd:Option Nat} {P:Program} {ops:Array Oper} {i:Nat} {o:Oper} {a:Act} {w:World} {K:Act→World→Prop} {Q:Exit→Act→World→Prop} (hnd:BX ops) (ho:ops[i]?=some o) (h:o.uponIn (nh rd) 0 P a K Q ((execOp a.eval o).run P w)):o.wpIn (nh rd) 0 P a w K Q :=
 tp (hnd i o ho) h
theorem oY.uponIn {rd:Option Nat} {P:Program} {R:Value→World→Prop} {o:Oper} {a:Act} {next:Act→World→Prop} {Q:Exit→Act→World→Prop} {r:Result Next}
  (h:oY P R r) (hn:∀v w', R v w'→next (a.put o.dst v) w'):o.uponIn (nh rd) 0 P a next Q r:=jh (h.upon hn)
section
variable {P:Program} {ops:Array Oper} {sp:sG} {base:Act} {w0:World} {rd:Option Nat}
theorem xg {Q:Exit→Act→World→Prop} (hok:Hv ops sp base) {m0:Nat} (htail:BV ops m0=true):∀(fuel m:Nat) (listed:Array Bool) (a:Act) (w:World), m0≤m→m+fuel=ops.size→listed.size=ops.size →
  (∀i, i<m→listed.getD i false=true)→(∀i, m≤i→listed.getD i false=false) →
  wpOpsIn (nh rd) 0 P ops Q (List.range' m fuel) a w→wpAnyIn (nh rd) 0 P .any ops Q fuel listed a w:=by
 obtain⟨_, ht⟩:=pA htail
 intro fuel
 induction fuel with
 | zero =>
  intro m listed a w hm hmn hs hall hno h
  refine⟨List.eq_nil_iff_forall_not_mem.2 (fun i hi=>?_), by simpa[wpOpsIn]using h⟩
  obtain⟨h1, o, ho, _⟩:=(cY listed hs i).1 hi
  have:=(Array.getElem?_eq_some_iff.1 ho).1
  rw[hall i (by omega)]at h1
  cases h1
 | succ fuel ih =>
  intro m listed a w hm hmn hs hall hno h
  have hmlt:m<ops.size:=by omega
  have ho:ops[m]?=some ops[m]:=Array.getElem?_eq_getElem hmlt
  have hrm:m∈Region.ready .any ops listed:=(cY listed hs m).2 ⟨hno m (Nat.le_refl _), _, ho, fun e he hb=>hall _ (by have:=hok.top m _ ho e he hb;omega)⟩
  refine⟨fun hnil=>(by rw[hnil]at hrm;cases hrm), fun i hi=>?_⟩
  obtain⟨hnl, o, hio, hr⟩:=(cY listed hs i).1 hi
  have him:i=m:=by
   have hilt:=(Array.getElem?_eq_some_iff.1 hio).1
   have h1:m≤i:=by
    refine Decidable.byContradiction fun hn=>?_
    rw[hall i (by omega)]at hnl
    cases hnl
   refine Decidable.byContradiction fun hn=>?_
   have hb:=ht i (by omega) hilt m (by omega)
   have:=gn (listed:=listed) (fun k ok hk hok' e he hbe=>by
    have hkm:k<m:=by
     refine Decidable.byContradiction fun hn=>?_
     rw[hno k (by omega)]at hk
     cases hk
    have:=hok.top k ok hok' e he hbe
    exact hall _ (by omega)) 12 i m (fun o' ho'=>by rw[hio]at ho';cases ho';exact hr) hb
   rw[hno m (Nat.le_refl _)]at this
   cases this
  subst him
  rw[List.range'_succ, wpOpsIn_cons]at h
  refine wpOpIn_mono (fun a w h=>?_) h
  have hlt':i<listed.size:=by omega
  refine ih (i+1) _ a w (by omega) (by omega) (by simpa using hs) (fun k hk=>?_) (fun k hk=>?_) h
  ·rw[aW _ _ _ hlt']
   split
   ·rfl
   ·exact hall k (by omega)
  ·rw[aW _ _ _ hlt', if_neg (by omega)]
   exact hno k (by omega)
end
end Go.Proofs.YtckgpflobhpnpaaGreat
namespace Go.Proofs.YtckgpflobhpnpaaGreat
open Go.RowKit
set_option linter.unusedVariables false
set_option linter.unusedSimpArgs false
inductive V:Type 1
 | int (k:IntKind) (n:Int)
 | bool (b:Bool)
 | str (s:ByteArray)
 | sl (sz:Nat) {α:Type} (enc:α→List V) (d:α) (l:List α)
 | mp (es:List (Int×Value))
 | nilf
 | nsl
 | esl
 | sm (ag:Bool) {α:Type} (enc:α→List V) (d:α) (l:List (ByteArray×α))
 | nmp
def BZ (ag:Bool) (n:Nat) (v:Value) (f:Nat→Value):Prop:=if ag=true then ∃us:Array Value, v=.agg us∧us.size=n∧∀j, j<n→us[j]?=some (f j)else n=1∧v=f 0
inductive de (S:Nat→Prop) (w:World):V→Value→Prop
 | int (k:IntKind) (n:Int):de S w (.int k n) (.int k n)
 | bool (b:Bool):de S w (.bool b) (.bool b)
 | str (s:ByteArray):de S w (.str s) (.string s)
 | nil (sz:Nat) {α:Type} (enc:α→List V) (d:α) (p:Option Addr) (c:Nat):c≤maxLen→(p=none→c=0)→de S w (.sl sz enc d []) (.slice p 0 c)
 | row (sz:Nat) {α:Type} (enc:α→List V) (d:α) (l:List α) (b off c n:Nat) (us:Nat→Nat→Value):S b→b<w.heap.size→n=l.length→n≤c→c≤maxLen →
   (∀(i:Nat) (x:α), l[i]?=some x→(enc x).length=sz) →
   (∀(i:Nat) (x:α) (j:Nat) (y:V), l[i]?=some x→(enc x)[j]?=some y→w.cell? ⟨b, off+(i*sz+j), none⟩=some (us i j)) →
   (∀(i:Nat) (x:α) (j:Nat) (y:V), l[i]?=some x→(enc x)[j]?=some y→de S w y (us i j))→de S w (.sl sz enc d l) (.slice (some ⟨b, off, none⟩) n c)
 | mp (es:List (Int×Value)) (b clock:Nat) (arr:Array MapEntry):S b→b<w.heap.size→w.heap[b]?=some (.map arr clock)→arr.toList.map (fun e=>(e.key, e.val))=es.map (fun e=>(Value.int .i64 e.1, e.2))→de S w (.mp es) (.map (some b))
 | nilf:de S w .nilf .nilFunc
 | nsl:de S w .nsl (.slice none 0 0)
 | esl (p:Addr) (c:Nat):c≤maxLen→de S w .esl (.slice (some p) 0 c)
 | smn (ag:Bool) {α:Type} (enc:α→List V) (d:α):de S w (.sm ag enc d []) (.map none)
 | sm (ag:Bool) {α:Type} (enc:α→List V) (d:α) (l:List (ByteArray×α)) (b clock:Nat) (arr:Array MapEntry) (us:Nat→Nat→Value):S b→b<w.heap.size→w.heap[b]?=some (.map arr clock)→arr.size=l.length →
   (∀(i:Nat) (k:ByteArray) (x:α), l[i]?=some (k, x)→∃e, arr[i]?=some e∧e.key=.string k∧BZ ag (enc x).length e.val (us i)) →
   (∀(i:Nat) (k:ByteArray) (x:α) (j:Nat) (y:V), l[i]?=some (k, x)→(enc x)[j]?=some y→de S w y (us i j))→de S w (.sm ag enc d l) (.map (some b))
 | nmp:de S w .nmp (.map none)
theorem de.stable {S S':Nat→Prop} {w w':World} {x:V} {u:Value} (h:de S w x u) (hS:∀b, S b→b<w.heap.size→S' b)
  (hw:∀b, S b→b<w.heap.size→w'.heap[b]?=w.heap[b]?) (hsz:w.heap.size≤w'.heap.size):de S' w' x u:=by
 induction h with
 | int k n=>exact .int k n
 | bool b=>exact .bool b
 | str s=>exact .str s
 | nil sz enc d p c h1 h2=>exact .nil sz enc d p c h1 h2
 | row sz enc d l b off c n us h1 h2 h3 h4 h5 h6 h7 _ ih =>
  exact .row sz enc d l b off c n us (hS b h1 h2) (by omega) h3 h4 h5 h6 (fun i x j y hx hy=>by rw[← h7 i x j y hx hy];exact World.cell?_of_block (hw b h1 h2)) ih
 | nilf=>exact .nilf
 | nsl=>exact .nsl
 | esl p c h=>exact .esl p c h
 | mp es b clock arr h1 h2 h3 h4=>exact .mp es b clock arr (hS b h1 h2) (by omega) (by rw[hw b h1 h2];exact h3) h4
 | smn ag enc d=>exact .smn ag enc d
 | sm ag enc d l b clock arr us h1 h2 h3 h4 h5 _ ih=>exact .sm ag enc d l b clock arr us (hS b h1 h2) (by omega) (by rw[hw b h1 h2];exact h3) h4 h5 ih
 | nmp=>exact .nmp
theorem de.one {S:Nat→Prop} {w:World} {x:V} {u:Value} (h:de S w x u):u.oneCell'=true:=by
 cases h<;>rfl
inductive D:Type 1
 | v (x:V)
 | nils
 | own (id:Nat)
 | ptr (id i sz off:Nat)
 | iptr (cs:List V) (off:Nat)
 | agg (cs:List D)
 | tup (cs:List D)
 | fn (f:Fn) (first cap:List D)
 | yld (id:Nat)
 | capd (x:V)
 | gr (g r:Nat)
 | junk
mutual
def D.free (id:Nat):D→Bool
 | .own i=>!(Nat.beq i id)
 | .ptr i _ _ _=>!(Nat.beq i id)
 | .agg cs=>D.freeL id cs
 | .tup cs=>D.freeL id cs
 | .fn _ a b=>D.freeL id a&&D.freeL id b
 | .yld i=>!(Nat.beq i id)
 | .gr i _=>!(Nat.beq i id)
 | _=>true
def D.freeL (id:Nat):List D→Bool
 | []=>true
 | c::cs=>D.free id c&&D.freeL id cs
end
def aG:Value→Option Nat
 | .pointer (some a)=>some a.block
 | .slice (some a) _ _=>some a.block
 | .map (some b)=>some b
 | _=>none
def bE (u:Value) (b:Nat):Prop:=aG u=some b∨∃us:Array Value, u=.tuple us∧∃(k:Nat) (x:Value), us[k]?=some x∧aG x=some b
theorem bE.one {u:Value} {b k:Nat} (hk:bE u k) (h:aG u=some b):some b=some k:=by
 rcases hk with hk | ⟨us, rfl, _⟩
 ·rw[← h, ← hk]
 ·cases h
theorem bE.bl {u:Value} {b:Nat} (hk:bE u b) (h:u.oneCell'=true):aG u=some b:=by
 rcases hk with hk | ⟨us, rfl, _⟩
 ·exact hk
 ·cases h
theorem bE.of {u:Value} {b:Nat} (h:aG u=some b):bE u b:=.inl h
inductive ak (S:Nat→Prop) (μ:Nat→Value) (w:World):D→Value→Prop
 | v (x:V) (u:Value):de S w x u→ak S μ w (.v x) u
 | nils:ak S μ w .nils (.slice none 0 0)
 | own (id:Nat):ak S μ w (.own id) (μ id)
 | ptr (id i sz off b:Nat):aG (μ id)=some b→ak S μ w (.ptr id i sz off) (.pointer (some ⟨b, i*sz+off, none⟩))
 | iptr (cs:List V) (off b o:Nat) (us:Nat→Value):S b→b<w.heap.size→(∀(j:Nat) (y:V), cs[j]?=some y→w.cell? ⟨b, o+j, none⟩=some (us j)) →
   (∀(j:Nat) (y:V), cs[j]?=some y→de S w y (us j))→ak S μ w (.iptr cs off) (.pointer (some ⟨b, o+off, none⟩))
 | agg (cs:List D) (us:Array Value):us.size=cs.length→(∀(j:Nat) (y:D) (u:Value), cs[j]?=some y→us[j]?=some u→ak S μ w y u)→ak S μ w (.agg cs) (.agg us)
 | tup (cs:List D) (us:Array Value):us.size=cs.length→(∀(j:Nat) (y:D) (u:Value), cs[j]?=some y→us[j]?=some u→ak S μ w y u)→ak S μ w (.tup cs) (.tuple us)
 | fn (f:Fn) (first cap:List D) (us vs:Array Value):us.size=first.length→(∀(j:Nat) (y:D) (u:Value), first[j]?=some y→us[j]?=some u→ak S μ w y u) →
   vs.size=cap.length→(∀(j:Nat) (y:D) (u:Value), cap[j]?=some y→vs[j]?=some u→ak S μ w y u)→ak S μ w (.fn f first cap) (.func f us vs)
 | yld (id l:Nat):aG (μ id)=some l→ak S μ w (.yld id) (.func (.yield l) #[] #[])
 | capd (x:V) (p:Option Addr) (n:Nat):de S w x (.slice p n n)→ak S μ w (.capd x) (.slice p n n)
 | gr (g r:Nat) (us:Array Value) (u:Value):μ g=.tuple us→us[r]?=some u→u.oneCell'=true→ak S μ w (.gr g r) u
 | junk (u:Value):ak S μ w .junk u
theorem D.freeL_get {id:Nat}:∀{cs:List D} {j:Nat} {y:D}, D.freeL id cs=true→cs[j]?=some y→D.free id y=true
 | [], _, _, _, h=>by simp at h
 | c::cs, 0, y, h, hy=>by
  simp only[D.freeL, Bool.and_eq_true]at h
  simp at hy
  subst hy
  exact h.1
 | c::cs, j+1, y, h, hy=>by
  simp only[D.freeL, Bool.and_eq_true]at h
  exact D.freeL_get h.2 (by simpa using hy)
theorem ak.stable {S S':Nat→Prop} {μ μ':Nat→Value} {w w':World} {d:D} {u:Value} (h:ak S μ w d u) (hS:∀b, S b→b<w.heap.size→S' b)
  (hw:∀b, S b→b<w.heap.size→w'.heap[b]?=w.heap[b]?) (hsz:w.heap.size≤w'.heap.size) (hμ:∀id, d.free id=false→μ' id=μ id):ak S' μ' w' d u:=by
 induction h with
 | v x u h=>exact .v x u (h.stable hS hw hsz)
 | nils=>exact .nils
 | own id=>rw[← hμ id (by simp[D.free])];exact .own id
 | ptr id i sz off b h=>exact .ptr id i sz off b (by rw[hμ id (by simp[D.free])];exact h)
 | yld id l h=>exact .yld id l (by rw[hμ id (by simp[D.free])];exact h)
 | iptr cs off b o us h1 h2 h3 h4=>exact .iptr cs off b o us (hS b h1 h2) (by omega) (fun j y hy=>by rw[← h3 j y hy];exact World.cell?_of_block (hw b h1 h2)) (fun j y hy=>(h4 j y hy).stable hS hw hsz)
 | agg cs us h1 _ ih =>
  refine .agg cs us h1 (fun j y u hy hu=>ih j y u hy hu (fun id hf=>hμ id ?_))
  simp only[D.free]
  cases hc:D.freeL id cs
  ·rfl
  ·rw[D.freeL_get hc hy]at hf;cases hf
 | tup cs us h1 _ ih =>
  refine .tup cs us h1 (fun j y u hy hu=>ih j y u hy hu (fun id hf=>hμ id ?_))
  simp only[D.free]
  cases hc:D.freeL id cs
  ·rfl
  ·rw[D.freeL_get hc hy]at hf;cases hf
 | fn f a b us vs h1 _ h2 _ ih1 ih2 =>
  refine .fn f a b us vs h1 (fun j y u hy hu=>ih1 j y u hy hu (fun id hf=>hμ id ?_)) h2 (fun j y u hy hu=>ih2 j y u hy hu (fun id hf=>hμ id ?_))
  ·simp only[D.free]
   cases hc:D.freeL id a
   ·rfl
   ·rw[D.freeL_get hc hy]at hf;cases hf
  ·simp only[D.free]
   cases hc:D.freeL id b
   ·simp
   ·rw[D.freeL_get hc hy]at hf;cases hf
 | capd x p n h=>exact .capd x p n (h.stable hS hw hsz)
 | gr g r us u h h1 h2=>exact .gr g r us u (by rw[hμ g (by simp[D.free])];exact h) h1 h2
 | junk u=>exact .junk u
def D.one:D→Bool
 | .agg _=>false
 | .tup _=>false
 | .junk=>false
 | .own _=>true
 | _=>true
structure rH:Type 1 where
 E:TypeId
 sz:Nat
 α:Type
 enc:α→List V
 d:α
 l:List α
inductive Ce:Type 1
 | v (x:V)
 | me (r:Nat)
inductive aq:Type 1
 | dead
 | var (T:TypeId) (cs:List D)
 | arr (E:TypeId) (sz:Nat) {α:Type} (enc:α→List V) (d:α) (l:List α)
 | loop (l:Nat) (tm:Array Value) (nt:Nat) (env:List (Nat×D)) (ps:List Nat) (assign body:Code) (state:LoopState) (pending:Option Code)
 | frame (tm:Array Value) (env:List (Nat×D))
 | ro (E:TypeId) (sz:Nat) {α:Type} (enc:α→List V) (d:α) (l:List α)
 | mpb (t:TypeId) (ag:Bool) {α:Type} (enc:α→List V) (d:α) (l:List (ByteArray×α))
 | arrD (E:TypeId) (sz n:Nat) (gs:List Nat) (cell:Nat→Nat→D)
 | grp (n:Nat) (f:Nat→rH)
 | nest (E:TypeId) (sz n:Nat) (ce:Nat→Nat→Ce) (m:Nat) (f:Nat→rH)
def bN (id:Nat):List (Nat×D)→Bool
 | []=>true
 | (_, d)::r=>D.free id d&&bN id r
theorem b5 {id:Nat}:∀{env:List (Nat×D)} {t:Nat} {d:D}, bN id env=true→(t, d)∈env→D.free id d=true
 | (s, e)::r, t, d, h, hm=>by
  simp only[bN, Bool.and_eq_true]at h
  rcases List.mem_cons.1 hm with hm | hm
  ·cases hm;exact h.1
  ·exact b5 h.2 hm
def kx (ag:Bool) (cs:List V):D:=if ag then .agg (cs.map D.v)else (cs.map D.v).getD 0 .junk
theorem vS (ag:Bool) (cs:List V) (id:Nat):D.free id (kx ag cs)=true:=by
 have hL:∀cs:List V, D.freeL id (cs.map D.v)=true:=by
  intro cs
  induction cs with
  | nil=>rfl
  | cons c r ih=>rw[List.map_cons, D.freeL, ih];rfl
 unfold kx
 split
 ·rw[D.free];exact hL cs
 ·cases cs<;>rfl
def B1 (S:Nat→Prop) (μ:Nat→Value) (w:World) (ag:Bool) {α:Type} (enc:α→List V) (l:List (ByteArray×α)) (arr:Array MapEntry):Prop :=
 arr.size=l.length∧∀(i:Nat) (k:ByteArray) (x:α), l[i]?=some (k, x)→∃e, arr[i]?=some e∧e.key=.string k∧(ag=false→(enc x).length=1)∧ak S μ w (kx ag (enc x)) e.val
def rI (S:Nat→Prop) (w:World) (u:Value) (x:rH):Prop:=(∀(i:Nat) (y:x.α), x.l[i]?=some y→(x.enc y).length=x.sz)∧∃xs, w.ownsRow 0 x.E x.sz u x.l.length xs∧∀(i:Nat) (z:x.α) (j:Nat) (y:V), x.l[i]?=some z→(x.enc z)[j]?=some y→∃v, xs[i*x.sz+j]?=some v∧de S w y v
def Lx (S:Nat→Prop) (w:World) (us:Array Value):Ce→Value→Prop
 | .v x, z=>de S w x z
 | .me r, z=>us[r+1]?=some z
def aJ (S:Nat→Prop) (μ:Nat→Value) (w:World) (u:Value):aq→Prop
 | .dead=>True
 | .var T cs=>∃b vs, u=.pointer (some ⟨b, 0, none⟩)∧w.heap[b]?=some (.cells vs T (0, 0))∧vs.size=cs.length∧∀(j:Nat) (y:D) (x:Value), cs[j]?=some y→vs[j]?=some x→ak S μ w y x
 | .arr (α:=α) E sz enc _ l=>(∀(i:Nat) (x:α), l[i]?=some x→(enc x).length=sz)∧∃xs, w.ownsRow 0 E sz u l.length xs∧∀(i:Nat) (x:α) (j:Nat) (y:V), l[i]?=some x→(enc x)[j]?=some y→∃z, xs[i*sz+j]?=some z∧de S w y z
 | .loop l tm nt env ps assign body state pending=>∃(r:Loop), u=.pointer (some ⟨l, 0, none⟩)∧w.heap[l]?=some (.loop r)∧r.state=state∧r.pending=pending∧r.params=ps.toArray∧r.assign=assign∧r.body=body∧r.tmps=tm∧tm.size=nt ∧
   ∀(t:Nat) (d:D), (t, d)∈env→t<nt∧ak S μ w d (tm.getD t undef)
 | .frame tm env=>u=.bool true∧∀(t:Nat) (d:D), (t, d)∈env→t<tm.size∧ak S μ w d (tm.getD t undef)
 | .ro (α:=α) E sz enc _ l=>(∀(i:Nat) (x:α), l[i]?=some x→(enc x).length=sz)∧∃xs, w.ownsRow 0 E sz u l.length xs∧∀(i:Nat) (x:α) (j:Nat) (y:V), l[i]?=some x→(enc x)[j]?=some y→∃z, xs[i*sz+j]?=some z∧de S w y z
 | .mpb t ag enc _ l=>∃b arr clock, u=.map (some b)∧w.heap[b]?=some (.map arr clock)∧B1 S μ w ag enc l arr
 | .arrD E sz n gs cell=>(∀(i j id:Nat), i<n→j<sz→gs.all (fun g=>!(Nat.beq g id))=true→(cell i j).free id=true)∧∃xs, w.ownsRow 0 E sz u n xs∧∀(i j:Nat), i<n→j<sz→∃z, xs[i*sz+j]?=some z∧z.oneCell'=true∧ak S μ w (cell i j) z
 | .grp n f=>∃us:Array Value, u=.tuple us∧us.size=n∧(∀(r:Nat) (v:Value), us[r]?=some v→v.oneCell'=true∧rI S w v (f r))∧∀(r r':Nat) (v v':Value) (b:Nat), us[r]?=some v→us[r']?=some v'→aG v=some b→aG v'=some b→r=r'
 | .nest E sz n ce m f=>∃us:Array Value, u=.tuple us∧us.size=m+1∧(∃(v0:Value) (xs:List Value), us[0]?=some v0∧v0.oneCell'=true∧w.ownsRow 0 E sz v0 n xs∧∀(i j:Nat), i<n→j<sz→∃z, xs[i*sz+j]?=some z∧z.oneCell'=true∧Lx S w us (ce i j) z) ∧
   (∀(r:Nat) (v:Value), us[r+1]?=some v→v.oneCell'=true∧rI S w v (f r))∧∀(r r':Nat) (v v':Value) (b:Nat), us[r]?=some v→us[r']?=some v'→aG v=some b→aG v'=some b→r=r'
def aq.live:aq→Bool
 | .dead=>false
 | .ro _ _ _ _ _=>false
 | _=>true
def aq.isRo:aq→Bool
 | .ro _ _ _ _ _=>true
 | _=>false
theorem aq.three (A:aq):A=.dead∨A.live=true∨A.isRo=true:=by
 cases A<;>first | exact .inl rfl | exact .inr (.inl rfl) | exact .inr (.inr rfl)
def aq.isArr:aq→Bool
 | .arr _ _ _ _ _=>true
 | _=>false
def aq.isOwn:aq→Bool
 | .arr _ _ _ _ _=>true
 | .nest _ _ _ _ _ _=>true
 | _=>false
theorem aq.isOwn_arr {B:aq} (h:B.isArr=true):B.isOwn=true:=by cases B<;>first | rfl | cases h
theorem DH {B:aq} (h:B.live=true):B.isRo=false:=by cases B<;>first | rfl | cases h
theorem lV {B:aq} (h:B.isArr=true):B.isRo=false:=by cases B<;>first | rfl | cases h
def aq.free (id:Nat):aq→Bool
 | .var _ cs=>D.freeL id cs
 | .loop _ _ _ env _ _ _ _ _=>bN id env
 | .frame _ env=>bN id env
 | .arrD _ _ _ gs _=>gs.all (fun g=>!(Nat.beq g id))
 | _=>true
theorem rI.stable {S S':Nat→Prop} {w w':World} {u:Value} {x:rH} (h:rI S w u x) (hS:∀b, S b→b<w.heap.size→S' b)
  (hw:∀b, S b→b<w.heap.size→w'.heap[b]?=w.heap[b]?) (hsz:w.heap.size≤w'.heap.size) (hb:∀b, aG u=some b→w'.heap[b]?=w.heap[b]?):rI S' w' u x:=by
 obtain⟨h0, xs, ⟨h1, h2⟩, h3⟩:=h
 refine⟨h0, xs, ⟨h1, ?_⟩, fun i x j y hx hy=>?_⟩
 ·rcases h2 with h2 | ⟨g, cap, cur, rfl, hg, hh, r⟩
  ·exact .inl h2
  ·exact .inr ⟨g, cap, cur, rfl, hg, by rw[hb g rfl];exact hh, r⟩
 ·obtain⟨z, hz, hr⟩:=h3 i x j y hx hy
  exact⟨z, hz, hr.stable hS hw hsz⟩
theorem t8 {w w':World} {E sz n:Nat} {u:Value} {xs:List Value} (h:w.ownsRow 0 E sz u n xs) (hb:∀b, aG u=some b→w'.heap[b]?=w.heap[b]?):w'.ownsRow 0 E sz u n xs:=by
 obtain⟨h1, h2⟩:=h
 refine⟨h1, ?_⟩
 rcases h2 with h2 | ⟨g, cap, cur, rfl, hg, hh, r⟩
 ·exact .inl h2
 ·exact .inr ⟨g, cap, cur, rfl, hg, by rw[hb g rfl];exact hh, r⟩
theorem aJ.stable {S S':Nat→Prop} {μ μ':Nat→Value} {w w':World} {u:Value} {B:aq} (h:aJ S μ w u B) (hS:∀b, S b→b<w.heap.size→S' b)
  (hw:∀b, S b→b<w.heap.size→w'.heap[b]?=w.heap[b]?) (hsz:w.heap.size≤w'.heap.size) (hμ:∀id, B.free id=false→μ' id=μ id)
  (hb':∀b, bE u b→w'.heap[b]?=w.heap[b]?):aJ S' μ' w' u B:=by
 have hb:∀b, aG u=some b→w'.heap[b]?=w.heap[b]?:=fun b h=>hb' b (.of h)
 cases B with
 | dead=>trivial
 | var T cs =>
  obtain⟨b, vs, rfl, h1, h2, h3⟩:=h
  refine⟨b, vs, rfl, by rw[hb b rfl];exact h1, h2, fun j y x hy hx=>(h3 j y x hy hx).stable hS hw hsz (fun id hf=>hμ id ?_)⟩
  simp only[aq.free]
  cases hc:D.freeL id cs
  ·rfl
  ·rw[D.freeL_get hc hy]at hf;cases hf
 | arr E sz enc d l =>
  obtain⟨h0, xs, ⟨h1, h2⟩, h3⟩:=h
  refine⟨h0, xs, ⟨h1, ?_⟩, fun i x j y hx hy=>?_⟩
  ·rcases h2 with h2 | ⟨g, cap, cur, rfl, hg, hh, r⟩
   ·exact .inl h2
   ·exact .inr ⟨g, cap, cur, rfl, hg, by rw[hb g rfl];exact hh, r⟩
  ·obtain⟨z, hz, hr⟩:=h3 i x j y hx hy
   exact⟨z, hz, hr.stable hS hw hsz⟩
 | loop l tm nt env ps assign body state pending =>
  obtain⟨r, rfl, h1, h2, h3, h4, h5, h6, h7, h7', h8⟩:=h
  refine⟨r, rfl, by rw[hb l rfl];exact h1, h2, h3, h4, h5, h6, h7, h7', fun t d hm=>?_⟩
  obtain⟨q1, q2⟩:=h8 t d hm
  refine⟨q1, q2.stable hS hw hsz (fun id hf=>hμ id ?_)⟩
  simp only[aq.free]
  cases hc:bN id env
  ·rfl
  ·rw[b5 hc hm]at hf;cases hf
 | frame tm env =>
  obtain⟨rfl, h8⟩:=h
  refine⟨rfl, fun t d hm=>?_⟩
  obtain⟨q1, q2⟩:=h8 t d hm
  refine⟨q1, q2.stable hS hw hsz (fun id hf=>hμ id ?_)⟩
  simp only[aq.free]
  cases hc:bN id env
  ·rfl
  ·rw[b5 hc hm]at hf;cases hf
 | ro E sz enc d l =>
  obtain⟨h0, xs, ⟨h1, h2⟩, h3⟩:=h
  refine⟨h0, xs, ⟨h1, ?_⟩, fun i x j y hx hy=>?_⟩
  ·rcases h2 with h2 | ⟨g, cap, cur, rfl, hg, hh, r⟩
   ·exact .inl h2
   ·exact .inr ⟨g, cap, cur, rfl, hg, by rw[hb g rfl];exact hh, r⟩
  ·obtain⟨z, hz, hr⟩:=h3 i x j y hx hy
   exact⟨z, hz, hr.stable hS hw hsz⟩
 | mpb t ag enc d l =>
  obtain⟨b, arr, clock, rfl, h1, h2, h3⟩:=h
  refine⟨b, arr, clock, rfl, by rw[hb b rfl];exact h1, h2, fun i k x hx=>?_⟩
  obtain⟨e, q1, q2, q4, q3⟩:=h3 i k x hx
  exact⟨e, q1, q2, q4, q3.stable hS hw hsz (fun id hf=>by rw[vS]at hf;cases hf)⟩
 | arrD E sz n gs cell =>
  obtain⟨h0, xs, ⟨h1, h2⟩, h3⟩:=h
  refine⟨h0, xs, ⟨h1, ?_⟩, fun i j hi hj=>?_⟩
  ·rcases h2 with h2 | ⟨g, cap, cur, rfl, hg, hh, r⟩
   ·exact .inl h2
   ·exact .inr ⟨g, cap, cur, rfl, hg, by rw[hb g rfl];exact hh, r⟩
  ·obtain⟨z, hz, ho, hr⟩:=h3 i j hi hj
   refine⟨z, hz, ho, hr.stable hS hw hsz (fun id hf=>hμ id ?_)⟩
   simp only[aq.free]
   cases hc:gs.all (fun g=>!(Nat.beq g id))
   ·rfl
   ·rw[h0 i j id hi hj hc]at hf;cases hf
 | grp n f =>
  obtain⟨us, rfl, h1, h2, h3⟩:=h
  exact⟨us, rfl, h1, fun r v hv=>⟨(h2 r v hv).1, (h2 r v hv).2.stable hS hw hsz (fun b hb''=>hb' b (.inr ⟨us, rfl, r, v, hv, hb''⟩))⟩, h3⟩
 | nest E sz n ce m f =>
  obtain⟨us, rfl, h1, ⟨v0, xs, g1, g2, g3, g4⟩, h2, h3⟩:=h
  refine⟨us, rfl, h1, ⟨v0, xs, g1, g2, t8 g3 (fun b hb''=>hb' b (.inr ⟨us, rfl, 0, v0, g1, hb''⟩)), fun i j hi hj=>?_⟩, fun r v hv=>⟨(h2 r v hv).1, (h2 r v hv).2.stable hS hw hsz (fun b hb''=>hb' b (.inr ⟨us, rfl, r+1, v, hv, hb''⟩))⟩, h3⟩
  obtain⟨z, q1, q2, q3⟩:=g4 i j hi hj
  refine⟨z, q1, q2, ?_⟩
  cases hc:ce i j with
  | v x=>rw[hc]at q3;exact q3.stable hS hw hsz
  | me r=>rw[hc]at q3;exact q3
theorem aJ.ro_arr {S:Nat→Prop} {μ:Nat→Value} {w:World} {u:Value} {E sz:Nat} {α:Type} {enc:α→List V} {d:α} {l:List α} (h:aJ S μ w u (.ro E sz enc d l)):aJ S μ w u (.arr E sz enc d l):=h
theorem aJ.lt {S:Nat→Prop} {μ:Nat→Value} {w:World} {u:Value} {B:aq} (h:aJ S μ w u B) (hl:B.live=true):∀b, bE u b→b<w.heap.size:=by
 intro b hb
 cases B with
 | dead=>cases hl
 | var T cs =>
  obtain⟨b', vs, rfl, h1, _⟩:=h
  simp[bE, aG]at hb
  subst hb
  exact(Array.getElem?_eq_some_iff.1 h1).1
 | arr E sz enc d l =>
  obtain⟨_, xs, ⟨h1, h2⟩, _⟩:=h
  rcases h2 with ⟨rfl, _⟩ | ⟨g, cap, cur, rfl, hg, hh, r⟩
  ·simp[bE, aG]at hb
  ·simp[bE, aG]at hb
   subst hb
   exact(Array.getElem?_eq_some_iff.1 hh).1
 | loop l tm nt env ps assign body state pending =>
  obtain⟨r, rfl, h1, _⟩:=h
  simp[bE, aG]at hb
  subst hb
  exact(Array.getElem?_eq_some_iff.1 h1).1
 | frame tm env =>
  obtain⟨rfl, _⟩:=h
  simp[bE, aG]at hb
 | ro E sz enc d l=>cases hl
 | mpb t ag enc d l =>
  obtain⟨b', arr, clock, rfl, h1, _⟩:=h
  simp[bE, aG]at hb
  subst hb
  exact(Array.getElem?_eq_some_iff.1 h1).1
 | arrD E sz n gs cell =>
  obtain⟨_, xs, ⟨h1, h2⟩, _⟩:=h
  rcases h2 with ⟨rfl, _⟩ | ⟨g, cap, cur, rfl, hg, hh, r⟩
  ·simp[bE, aG]at hb
  ·simp[bE, aG]at hb
   subst hb
   exact(Array.getElem?_eq_some_iff.1 hh).1
 | grp n f =>
  obtain⟨us, rfl, h1, h2, h3⟩:=h
  rcases hb with hb | ⟨us', he, k, x, hx, hb⟩
  ·simp[aG]at hb
  ·cases he
   obtain⟨_, _, xs, ⟨_, h2⟩, _⟩:=h2 k x hx
   rcases h2 with ⟨rfl, _⟩ | ⟨g, cap, cur, rfl, hg, hh, r⟩
   ·simp[aG]at hb
   ·simp[aG]at hb
    subst hb
    exact(Array.getElem?_eq_some_iff.1 hh).1
 | nest E sz n ce m f =>
  obtain⟨us, rfl, h1, ⟨v0, xs, g1, g2, g3, g4⟩, h2, h3⟩:=h
  rcases hb with hb | ⟨us', he, k, x, hx, hb⟩
  ·simp[aG]at hb
  ·cases he
   have key:∃E' sz' n' xs', w.ownsRow 0 E' sz' x n' xs':=by
    cases k with
    | zero=>rw[g1]at hx;cases hx;exact⟨_, _, _, _, g3⟩
    | succ k=>obtain⟨_, _, xs, h, _⟩:=h2 k x hx;exact⟨_, _, _, _, h⟩
   obtain⟨E', sz', n', xs', _, h2⟩:=key
   rcases h2 with ⟨rfl, _⟩ | ⟨g, cap, cur, rfl, hg, hh, r⟩
   ·simp[aG]at hb
   ·simp[aG]at hb
    subst hb
    exact(Array.getElem?_eq_some_iff.1 hh).1
theorem aJ.ltR {S:Nat→Prop} {μ:Nat→Value} {w:World} {u:Value} {B:aq} (h:aJ S μ w u B) (hr:B.isRo=true):∀b, bE u b→b<w.heap.size:=by
 cases B<;>first | (cases hr;done) | skip
 exact h.ro_arr.lt rfl
structure a9 (S:Nat→Prop) (μ:Nat→Value) (w:World) (H:List aq):Prop where
 box:∀(id:Nat) (B:aq), H[id]?=some B→aJ S μ w (μ id) B
 apart:∀(i j:Nat) (A B:aq) (b:Nat), H[i]?=some A→H[j]?=some B→A.live=true→B.live=true→bE (μ i) b→bE (μ j) b→i=j
 notS:∀(i:Nat) (A:aq) (b:Nat), H[i]?=some A→A.live=true→bE (μ i) b→¬S b
structure lC where
 P:Program
 W:World
 S0:Nat→Prop
 nt:Nat
 susp:List Nat
 rd:Option Nat
structure St:Type 1 where
 env:List (Nat×D)
 heap:List aq
structure aX (C:lC) (S:Nat→Prop) (μ:Nat→Value) (st:St) (a:Act) (w:World):Prop where
 os:w.os=C.W.os
 tape:w.tape=C.W.tape
 output:w.output=C.W.output
 size:C.W.heap.size≤w.heap.size
 old:∀k, k<C.W.heap.size→w.heap[k]?=C.W.heap[k]?
 mono:∀b, C.S0 b→S b
 new:∀b, S b→C.S0 b∨C.W.heap.size≤b
 slt:∀b, S b→b<w.heap.size
 env:∀(t:Nat) (d:D), (t, d)∈st.env→t<C.nt∧ak S μ w d (a.tmps.getD t undef)
 heap:a9 S μ w st.heap
 may:∀(i:Nat) (A:aq) (b:Nat), st.heap[i]?=some A→A.live=true→bE (μ i) b→C.W.heap.size≤b
 defers:∃mk:List Nat, a.defers=mk.map (fun b=>{ target:=.collected b, args:=#[] })∧(mk++C.susp).Nodup∧∀b∈mk++C.susp, w.heap[b]?=some (.deferred (some []))∧C.W.heap.size≤b∧¬S b∧∀(i:Nat) (A:aq), st.heap[i]?=some A→A.live=true→¬bE (μ i) b
 tsize:a.tmps.size=C.nt
 ro:∀(i:Nat) (A:aq) (b:Nat), st.heap[i]?=some A→A.isRo=true→bE (μ i) b→b<C.W.heap.size
end Go.Proofs.YtckgpflobhpnpaaGreat
namespace Go.Proofs.YtckgpflobhpnpaaGreat
open Go.RowKit
set_option linter.unusedVariables false
set_option linter.unusedSimpArgs false
def D.ofVal1:Value→D
 | .int k n=>.v (.int k n)
 | .bool b=>.v (.bool b)
 | .string s=>.v (.str s)
 | .slice none 0 0=>.nils
 | .nilFunc=>.v .nilf
 | .map none=>.v .nmp
 | .func f a b=>if a.isEmpty&&b.isEmpty then .fn f [] []else .junk
 | _=>.junk
def D.ofVal:Value→D
 | .agg us=>.agg (us.toList.map D.ofVal1)
 | u=>D.ofVal1 u
theorem d9 {α:Type _} (l:List α) (d:α) {i:Nat} (h:i<l.length):l.getD i d=l[i]:=by simp[List.getD, h]
theorem ak.ofVal1 (S:Nat→Prop) (μ:Nat→Value) (w:World) (u:Value):ak S μ w (D.ofVal1 u) u:=by
 unfold D.ofVal1
 split
 ·exact .v _ _ (.int _ _)
 ·exact .v _ _ (.bool _)
 ·exact .v _ _ (.str _)
 ·exact .nils
 ·exact .v _ _ .nilf
 ·exact .v _ _ .nmp
 ·split
  ·rename_i f a b h
   simp only[Bool.and_eq_true, Array.isEmpty_iff]at h
   obtain⟨rfl, rfl⟩:=h
   exact .fn f [] [] #[] #[] rfl (fun j y u h=>by simp at h) rfl (fun j y u h=>by simp at h)
  ·exact .junk _
 ·exact .junk _
theorem ak.ofVal (S:Nat→Prop) (μ:Nat→Value) (w:World) (u:Value):ak S μ w (D.ofVal u) u:=by
 unfold D.ofVal
 split
 ·rename_i us
  refine .agg _ us (by simp) (fun j y u hy hu=>?_)
  simp only[List.getElem?_map, Array.getElem?_toList, hu, Option.map_some, Option.some.injEq]at hy
  subst hy
  exact ak.ofVal1 S μ w u
 ·exact ak.ofVal1 S μ w _
abbrev R1:=D×Prop
def aN:R1:=(.junk, False)
def aD (P:Program) (t:TypeId):Nat:=((P.info? t).map (·.size)).getD 0
def vU (P:Program) (t:TypeId):Bool:=match P.underlying t with | some (.struct _)=>true | some (.array _ _)=>true | _=>false
def ct (P:Program) (t:TypeId):Bool:=(P.info? t).isSome&&(P.underlying t).isSome
def cR (P:Program) (t:TypeId) (cs:List D) (off:Nat):R1 :=
 if ct P t&&Nat.ble (off+aD P t) cs.length&&(vU P t||Nat.beq (aD P t) 1)then
  (if vU P t then .agg ((cs.drop off).take (aD P t))else cs.getD off .junk, True)
 else aN
def B2 (P:Program) (t:TypeId) (H:List aq):D→R1
 | .ptr id i sz off=>match H[id]? with
  | some (.var _ cs)=>if Nat.beq i 0 then cR P t cs off else aN
  | some (.arr _ sz' enc d l)=>if Nat.beq sz sz' then
    (match cR P t ((enc (l.getD i d)).map D.v) off with | (x, p)=>(x, i<l.length∧p))else aN
  | some (.ro _ sz' enc d l)=>if Nat.beq sz sz' then
    (match cR P t ((enc (l.getD i d)).map D.v) off with | (x, p)=>(x, i<l.length∧p))else aN
  | some (.arrD _ sz' n _ cell)=>if Nat.beq sz sz' then
    (match cR P t ((List.range sz).map (cell i)) off with | (x, p)=>(x, i<n∧p))else aN
  | _=>aN
 | .iptr cs off=>cR P t (cs.map D.v) off
 | _=>aN
section
variable {P:Program} {S:Nat→Prop} {μ:Nat→Value} {w:World}
theorem dn {t:TypeId} (h:ct P t=true) (w:World):(sizeOf t).run P w=.ok (aD P t) w:=by
 unfold ct at h
 cases hi:P.info? t with
 | none=>simp[hi]at h
 | some i=>simp[sizeOf, typeInfo, hi, aD]
theorem vV {t:TypeId} (h:ct P t=true) (w:World):(isAgg t).run P w=.ok (vU P t) w:=by
 unfold ct at h
 cases hu:P.underlying t with
 | none=>simp[hu]at h
 | some d =>
  unfold isAgg
  simp only[Sem.run_bind, run_underlying hu, Result.andThen_ok]
  unfold vU
  rw[hu]
  cases d<;>rfl
def ky (S:Nat→Prop) (μ:Nat→Value) (w:World) (b o:Nat) (cs:List D):Prop :=
 ∀(j:Nat) (y:D), cs[j]?=some y→∃u, w.cell? ⟨b, o+j, none⟩=some u∧ak S μ w y u
theorem cZ (b o i:Nat):(⟨b, o, none⟩:Addr).add i=⟨b, o+i, none⟩:=by unfold Addr.add;split<;>simp_all
theorem ji {b o:Nat} {cs:List D} (h:ky S μ w b o cs):∀(n i:Nat) (acc:Array Value), i+n≤cs.length →
  ∃us:Array Value, (loadCellsFrom ⟨b, o, none⟩ i n acc).run P w=.ok (acc++us) w∧us.size=n∧∀(j:Nat) (y:D) (u:Value), cs[i+j]?=some y→us[j]?=some u→ak S μ w y u
 | 0, i, acc, _=>⟨#[], by simp[loadCellsFrom], rfl, fun j y u _ hu=>by simp at hu⟩
 | n+1, i, acc, hl=>by
  have hi:i<cs.length:=by omega
  obtain⟨u, hu, hr⟩:=h i cs[i] (List.getElem?_eq_getElem hi)
  obtain⟨us, h1, h2, h3⟩:=ji h n (i+1) (acc.push u) (by omega)
  refine⟨#[u]++us, ?_, by simp[h2];omega, fun j y x hy hx=>?_⟩
  ·have hld:(load ⟨b, o+i, none⟩).run P w=.ok u w:=by simp[load, Sem.run, hu]
   rw[loadCellsFrom, cZ, Sem.run_bind, hld, Result.andThen_ok, h1]
   congr 1
   rw[Array.push_eq_append, Array.append_assoc]
  ·cases j with
   | zero =>
    have hx':x=u:=by
     rw[Array.getElem?_append_left (by simp)]at hx
     simpa using hx.symm
    rw[hx']
    rw[Nat.add_zero, List.getElem?_eq_getElem hi]at hy
    cases hy
    exact hr
   | succ j =>
    refine h3 j y x (by rw[show i+1+j=i+(j+1)from by omega];exact hy) ?_
    rw[Array.getElem?_append_right (by simp)]at hx
    simpa using hx
theorem gx {t:TypeId} {cs:List D} {off b o:Nat} {d:D} {p:Prop} (hp:cR P t cs off=(d, p)) (hob:p) (h:ky S μ w b o cs) :
  ∃u, (loadVar t ⟨b, o+off, none⟩).run P w=.ok u w∧ak S μ w d u:=by
 unfold cR at hp
 split at hp
 ·rename_i hc
  simp only[Bool.and_eq_true, Bool.or_eq_true, Nat.ble_eq, Nat.beq_eq]at hc
  obtain⟨⟨hk, hl⟩, hs⟩:=hc
  simp only[Prod.mk.injEq]at hp
  obtain⟨rfl, _⟩:=hp
  have h':ky S μ w b (o+off) (cs.drop off):=fun j y hy=>by
   rw[List.getElem?_drop]at hy
   rw[Nat.add_assoc]
   exact h _ _ hy
  unfold loadVar
  simp only[Sem.run_bind, vV hk, Result.andThen_ok]
  cases ha:vU P t
  ·simp only[Bool.false_eq_true, if_false]
   rw[ha]at hs
   have hs1:aD P t=1:=by simpa using hs
   have hlt:off<cs.length:=by omega
   obtain⟨u, hu, hr⟩:=h off cs[off] (List.getElem?_eq_getElem hlt)
   refine⟨u, by simp[load, Sem.run, hu], ?_⟩
   rw[d9 _ _ hlt]
   exact hr
  ·simp only[if_true]
   obtain⟨us, h1, h2, h3⟩:=ji (P:=P) h' (aD P t) 0 #[] (by rw[List.length_drop];omega)
   refine⟨.agg us, ?_, .agg _ _ (by rw[h2, List.length_take, List.length_drop];omega) (fun j y u hy hu=>h3 j y u ?_ hu)⟩
   ·simp only[Sem.run_bind, dn hk, Result.andThen_ok, loadCells, h1, Sem.run_pure, Array.empty_append]
   ·rw[List.getElem?_take]at hy
    split at hy
    ·simpa using hy
    ·cases hy
 ·simp only[aN, Prod.mk.injEq]at hp
  obtain⟨_, rfl⟩:=hp
  exact hob.elim
theorem ni {E sz n:Nat} {u:Value} {xs:List Value} (h:w.ownsRow 0 E sz u n xs) {b:Nat} (hb:aG u=some b):∀j z, xs[j]?=some z→w.cell? ⟨b, j, none⟩=some z:=by
 intro j z hz
 have hob:u.ownBlock=some b:=by
  cases u<;>simp[aG]at hb ⊢
  ·obtain⟨h1, h2⟩:=h
   rcases h2 with ⟨h2, _⟩ | ⟨_, _, _, h2, _⟩<;>cases h2
  ·rename_i a len cap
   cases a with
   | none=>simp at hb
   | some a=>simp at hb;simp[Value.ownBlock, hb]
  ·obtain⟨h1, h2⟩:=h
   rcases h2 with ⟨h2, _⟩ | ⟨_, _, _, h2, _⟩<;>cases h2
 have:=h.cells hob j z hz
 rwa [cZ, Nat.zero_add]at this
theorem aJ.arr_cells {E sz:Nat} {α:Type} {enc:α→List V} {d:α} {l:List α} {u:Value} (h:aJ S μ w u (.arr E sz enc d l)) {b i:Nat} (hb:aG u=some b) (hi:i<l.length) :
  ky S μ w b (i*sz) ((enc (l.getD i d)).map D.v):=by
 obtain⟨h0, xs, h1, h2⟩:=h
 intro j y hy
 rw[List.getElem?_map]at hy
 have hx:l[i]?=some (l.getD i d):=by rw[d9 _ _ hi];exact List.getElem?_eq_getElem hi
 cases he:(enc (l.getD i d))[j]? with
 | none=>rw[he]at hy;cases hy
 | some z =>
  rw[he]at hy
  simp only[Option.map_some, Option.some.injEq]at hy
  subst hy
  obtain⟨q, hq, hr⟩:=h2 i _ j z hx he
  exact⟨q, ni h1 hb _ _ hq, .v _ _ hr⟩
theorem aJ.arrD_cells {E sz n:Nat} {gs:List Nat} {cell:Nat→Nat→D} {u:Value} (h:aJ S μ w u (.arrD E sz n gs cell)) {b i:Nat} (hb:aG u=some b) (hi:i<n) :
  ky S μ w b (i*sz) ((List.range sz).map (cell i)):=by
 obtain⟨h0, xs, h1, h2⟩:=h
 intro j y hy
 rw[List.getElem?_map]at hy
 by_cases hj:j<sz
 ·rw[List.getElem?_range hj]at hy
  simp only[Option.map_some, Option.some.injEq]at hy
  subst hy
  obtain⟨z, hz, _, hr⟩:=h2 i j hi hj
  exact⟨z, ni h1 hb _ _ hz, hr⟩
 ·rw[List.getElem?_eq_none (by simp;omega)]at hy
  cases hy
theorem aJ.var_cells {T:TypeId} {cs:List D} {u:Value} (h:aJ S μ w u (.var T cs)) {b:Nat} (hb:aG u=some b):ky S μ w b 0 cs:=by
 obtain⟨b', vs, rfl, h1, h2, h3⟩:=h
 simp[aG]at hb
 subst hb
 intro j y hy
 have hj:=(List.getElem?_eq_some_iff.1 hy).1
 have hv:vs[j]?=some vs[j]:=Array.getElem?_eq_getElem (by omega)
 refine⟨vs[j], ?_, h3 j y _ hy hv⟩
 simp[World.cell?, h1, hv]
theorem t9 {cs:List V} {off:Nat} {u:Value} (h:ak S μ w (.iptr cs off) u):∃b o, u=.pointer (some ⟨b, o+off, none⟩)∧ky S μ w b o (cs.map D.v):=by
 cases h with
 | iptr _ _ b o us h1 h2 h3 h4 =>
  refine⟨b, o, rfl, fun j y hy=>?_⟩
  rw[List.getElem?_map]at hy
  cases he:cs[j]? with
  | none=>rw[he]at hy;cases hy
  | some z =>
   rw[he]at hy
   simp only[Option.map_some, Option.some.injEq]at hy
   subst hy
   exact⟨_, h3 j z he, .v _ _ (h4 j z he)⟩
theorem nj {id i sz off:Nat} {u:Value} (h:ak S μ w (.ptr id i sz off) u):∃b, aG (μ id)=some b∧u=.pointer (some ⟨b, i*sz+off, none⟩):=by
 cases h with
 | ptr _ _ _ _ b h=>exact⟨b, h, rfl⟩
theorem sH {t:TypeId} {H:List aq} (hH:a9 S μ w H) {a d:D} {p:Prop} {ua:Value} (ha:ak S μ w a ua) (hp:B2 P t H a=(d, p)) (hob:p) :
  ∃u, (Instr.loadAt t ua).run P w=.ok u w∧ak S μ w d u:=by
 unfold B2 at hp
 split at hp
 ·rename_i id i sz off
  obtain⟨b, hb, rfl⟩:=nj ha
  split at hp
  ·rename_i T cs hbox
   split at hp
   ·rename_i hi
    simp only[Nat.beq_eq]at hi
    subst hi
    obtain⟨u, h1, h2⟩:=gx (P:=P) hp hob ((hH.box id _ hbox).var_cells hb)
    refine⟨u, ?_, h2⟩
    simpa[Instr.loadAt, Instr.sureAddr]using h1
   ·cases hp;exact hob.elim
  ·rename_i E sz' enc d' l hbox
   split at hp
   ·rename_i hs
    simp only[Nat.beq_eq]at hs
    subst hs
    generalize hq:cR P t ((enc (l.getD i d')).map D.v) off=q at hp
    obtain⟨x, p'⟩:=q
    simp only[Prod.mk.injEq]at hp
    obtain⟨rfl, rfl⟩:=hp
    obtain⟨u, h1, h2⟩:=gx (P:=P) hq hob.2 ((hH.box id _ hbox).arr_cells hb hob.1)
    refine⟨u, ?_, h2⟩
    simpa[Instr.loadAt, Instr.sureAddr]using h1
   ·cases hp;exact hob.elim
  ·rename_i E sz' enc d' l hbox
   split at hp
   ·rename_i hs
    simp only[Nat.beq_eq]at hs
    subst hs
    generalize hq:cR P t ((enc (l.getD i d')).map D.v) off=q at hp
    obtain⟨x, p'⟩:=q
    simp only[Prod.mk.injEq]at hp
    obtain⟨rfl, rfl⟩:=hp
    obtain⟨u, h1, h2⟩:=gx (P:=P) hq hob.2 ((hH.box id _ hbox).ro_arr.arr_cells hb hob.1)
    refine⟨u, ?_, h2⟩
    simpa[Instr.loadAt, Instr.sureAddr]using h1
   ·cases hp;exact hob.elim
  ·rename_i E sz' n gs cell hbox
   split at hp
   ·rename_i hs
    simp only[Nat.beq_eq]at hs
    subst hs
    generalize hq:cR P t ((List.range sz).map (cell i)) off=q at hp
    obtain⟨x, p'⟩:=q
    simp only[Prod.mk.injEq]at hp
    obtain⟨rfl, rfl⟩:=hp
    obtain⟨u, h1, h2⟩:=gx (P:=P) hq hob.2 ((hH.box id _ hbox).arrD_cells hb hob.1)
    refine⟨u, ?_, h2⟩
    simpa[Instr.loadAt, Instr.sureAddr]using h1
   ·cases hp;exact hob.elim
  ·cases hp;exact hob.elim
 ·rename_i cs off
  obtain⟨b, o, rfl, hc⟩:=t9 ha
  obtain⟨u, h1, h2⟩:=gx (P:=P) hp hob hc
  refine⟨u, ?_, h2⟩
  simpa[Instr.loadAt, Instr.sureAddr]using h1
 ·cases hp;exact hob.elim
end
end Go.Proofs.YtckgpflobhpnpaaGreat
namespace Go.Proofs.YtckgpflobhpnpaaGreat
open Go.RowKit
set_option linter.unusedVariables false
set_option linter.unusedSimpArgs false
def ub (n:Nat):D→R1
 | .ptr id i sz off=>(.ptr id i sz (off+n), True)
 | .iptr cs off=>(.iptr cs (off+n), True)
 | _=>aN
def pC (P:Program) (s:TypeId) (x:D) (f:Nat):R1 :=
 match P.underlying s with
 | some (.struct fs)=>match fs[f]? with
  | some fld=>if ct P fld.type&&!(Nat.beq (aD P fld.type) 0)then ub fld.offset x else aN
  | none=>aN
 | _=>aN
def pD (P:Program) (t:TypeId) (H:List aq) (x i:D):R1 :=
 match P.underlying t, x, i with
 | some (.slice e), .v (.sl sz enc d l), .v (.int _ n)=>if ct P e&&Nat.beq (aD P e) sz then (.iptr (enc (l.getD n.toNat d)) 0, 0≤n∧n<l.length)else aN
 | some (.slice e), .own id, .v (.int _ n)=>match H[id]? with
  | some (.arr _ sz _ _ l)=>if ct P e&&Nat.beq (aD P e) sz then (.ptr id n.toNat sz 0, 0≤n∧n<l.length)else aN
  | some (.ro _ sz _ _ l)=>if ct P e&&Nat.beq (aD P e) sz then (.ptr id n.toNat sz 0, 0≤n∧n<l.length)else aN
  | some (.arrD _ sz m _ _)=>if ct P e&&Nat.beq (aD P e) sz then (.ptr id n.toNat sz 0, 0≤n∧n<(m:Int))else aN
  | _=>aN
 | some (.array len e), x, .v (.int _ n)=>if ct P e then (match ub (n.toNat*aD P e) x with | (y, p)=>(y, (0≤n∧n<(len:Int))∧p))else aN
 | _, _, _=>aN
def Ap (P:Program) (t:TypeId) (x:D) (f:Nat):R1 :=
 match P.underlying t, x with
 | some (.struct fs), .agg cs=>match fs[f]? with
  | some fld=>cR P fld.type cs fld.offset
  | none=>aN
 | _, _=>aN
def Aq (P:Program) (t:TypeId) (x i:D):R1 :=
 match P.underlying t, x, i with
 | some (.array len e), .agg cs, .v (.int _ n)=>(match cR P e cs (n.toNat*aD P e)with | (y, p)=>(y, (0≤n∧n<(len:Int))∧p))
 | some .string, .v (.str s), .v (.int _ n)=>(.v (.int .u8 ((s[n.toNat]?).getD 0).toNat), 0≤n∧n<s.size)
 | _, _, _=>aN
def HD:D→Int
 | .v (.int _ n)=>n
 | _=>0
def Ar:D→Bool
 | .v (.int _ _)=>true
 | _=>false
def pE:Option D→Int
 | some d=>HD d
 | none=>0
def gZ (n:Int):Option D→Int
 | some d=>HD d
 | none=>n
def xh:Option D→Bool
 | some d=>Ar d
 | none=>true
def xi {α:Type} (l:List α):Option D→List α
 | some h=>l.take (HD h).toNat
 | none=>l
def xj (P:Program) (t:TypeId) (x:D) (lo hi mx:Option D):R1 :=
 match P.underlying t, x, lo, hi, mx with
 | some (.slice e), .v (.sl sz enc d l), none, some (.v (.int _ h)), some (.v (.int _ k))=>if ct P e&&Nat.beq (aD P e) sz then
   (.capd (.sl sz enc d (l.take h.toNat)), 0≤h∧h≤l.length∧k=h)else aN
 | _, _, _, _, _=>aN
def rJ:List V→Option (IntKind×List Int)
 | [.int k n]=>some (k, [n])
 | .int k n::r=>match rJ r with
  | some (k', l)=>if k==k' then some (k, n::l)else none
  | none=>none
 | _=>none
def Au (P:Program) (t:TypeId) (x:D) (lo hi mx:Option D):R1 :=
 if mx.isSome then xj P t x lo hi mx else
 if xh lo&&xh hi&&mx.isNone then
  match P.underlying t, x with
  | some (.slice e), .v (.sl sz enc d l)=>if ct P e&&Nat.beq (aD P e) sz then
    (.v (.sl sz enc d ((xi l hi).drop (pE lo).toNat)), 0≤pE lo∧pE lo≤gZ l.length hi∧gZ l.length hi≤l.length)else aN
  | some .string, .v (.str s)=>(.v (.str (s.extract (pE lo).toNat (gZ s.size hi).toNat)), 0≤pE lo∧pE lo≤gZ s.size hi∧gZ s.size hi≤s.size)
  | some (.array n e), .iptr cs off=>match rJ cs with
   | some (k, l)=>if ct P e&&Nat.beq (aD P e) 1&&Nat.beq l.length n&&Nat.beq off 0&&Nat.ble n maxLen then
     (.v (.sl 1 (fun x:Int=>[.int k x]) 0 ((xi l hi).drop (pE lo).toNat)), 0≤pE lo∧pE lo≤gZ l.length hi∧gZ l.length hi≤l.length)else aN
   | none=>aN
  | _, _=>aN
 else aN
section
variable {P:Program} {S:Nat→Prop} {μ:Nat→Value} {w:World}
theorem qi {n:Nat} {x d:D} {p:Prop} {ux:Value} (hx:ak S μ w x ux) (hp:ub n x=(d, p)) (hob:p) :
  ∃b o, ux=.pointer (some ⟨b, o, none⟩)∧ak S μ w d (.pointer (some ⟨b, o+n, none⟩)):=by
 unfold ub at hp
 split at hp
 ·rename_i id i sz off
  obtain⟨b, hb, rfl⟩:=nj hx
  cases hp
  exact⟨b, _, rfl, by rw[Nat.add_assoc];exact .ptr _ _ _ _ _ hb⟩
 ·rename_i cs off
  cases hp
  cases hx with
  | iptr _ _ b o us h1 h2 h3 h4=>exact⟨b, _, rfl, by rw[Nat.add_assoc];exact .iptr cs _ b o us h1 h2 h3 h4⟩
 ·cases hp;exact hob.elim
theorem rK {s:TypeId} {x d:D} {f:Nat} {p:Prop} {ux:Value} (hx:ak S μ w x ux) (hp:pC P s x f=(d, p)) (hob:p) :
  ∃u, (Instr.fieldAt s ux f).run P w=.ok u w∧ak S μ w d u:=by
 unfold pC at hp
 split at hp
 ·rename_i fs hu
  split at hp
  ·rename_i fld hf
   split at hp
   ·rename_i hc
    simp only[Bool.and_eq_true, Bool.not_eq_true', Nat.beq_eq]at hc
    obtain⟨hk, hz⟩:=hc
    have hz:aD P fld.type≠0:=by
     intro e
     rw[e]at hz
     cases hz
    obtain⟨b, o, rfl, hd⟩:=qi hx hp hob
    refine⟨_, ?_, hd⟩
    have hr:(fieldPlace ⟨b, o, none⟩ fld).run P w=.ok ⟨b, o+fld.offset, none⟩ w:=by
     unfold fieldPlace
     simp only[Sem.run_bind, dn hk, Result.andThen_ok]
     rw[if_neg hz, Sem.run_pure, cZ]
    simp only[Instr.fieldAt, Sem.run_bind, run_underlying hu, Result.andThen_ok, hf, Instr.sureAddr, Sem.run_pure, hr]
   ·cases hp;exact hob.elim
  ·cases hp;exact hob.elim
 ·cases hp;exact hob.elim
theorem fe {sz:Nat} {α:Type} {enc:α→List V} {d:α} {l:List α} {u:Value} (h:de S w (.sl sz enc d l) u) :
  ∃p c, u=.slice p l.length c∧l.length≤c∧c≤maxLen∧(p=none→c=0)∧(0<l.length→∃(b off:Nat) (us:Nat→Nat→Value), p=some ⟨b, off, none⟩∧S b∧b<w.heap.size ∧
   (∀(i:Nat) (x:α), l[i]?=some x→(enc x).length=sz) ∧
   (∀(i:Nat) (x:α) (j:Nat) (y:V), l[i]?=some x→(enc x)[j]?=some y→w.cell? ⟨b, off+(i*sz+j), none⟩=some (us i j)) ∧
   (∀(i:Nat) (x:α) (j:Nat) (y:V), l[i]?=some x→(enc x)[j]?=some y→de S w y (us i j))):=by
 generalize hv:V.sl sz enc d l=v at h
 cases h with
 | int k n=>cases hv
 | bool b=>cases hv
 | str s=>cases hv
 | mp=>cases hv
 | nilf=>cases hv
 | nsl=>cases hv
 | esl=>cases hv
 | smn=>cases hv
 | sm=>cases hv
 | nmp=>cases hv
 | nil sz' enc' d' p c h1 h2 =>
  cases hv
  exact⟨p, c, rfl, Nat.zero_le _, h1, h2, fun h=>absurd h (by simp)⟩
 | row sz' enc' d' l' b off c n us h1 h2 h3 h4 h5 h6 h7 h8 =>
  cases hv
  subst h3
  exact⟨_, c, rfl, h4, h5, (fun h=>by cases h), fun _=>⟨b, off, us, rfl, h1, h2, h6, h7, h8⟩⟩
theorem rL {sz:Nat} {α:Type} {enc:α→List V} {d:α} {l:List α} {p:Option Addr} {n c:Nat} (hn:n=l.length) (h1:l.length≤c) (h2:c≤maxLen) (h3:p=none→c=0)
  (h:0<l.length→∃(b off:Nat) (us:Nat→Nat→Value), p=some ⟨b, off, none⟩∧S b∧b<w.heap.size ∧
   (∀(i:Nat) (x:α), l[i]?=some x→(enc x).length=sz) ∧
   (∀(i:Nat) (x:α) (j:Nat) (y:V), l[i]?=some x→(enc x)[j]?=some y→w.cell? ⟨b, off+(i*sz+j), none⟩=some (us i j)) ∧
   (∀(i:Nat) (x:α) (j:Nat) (y:V), l[i]?=some x→(enc x)[j]?=some y→de S w y (us i j))):de S w (.sl sz enc d l) (.slice p n c):=by
 subst hn
 cases l with
 | nil=>exact .nil sz enc d p c h2 h3
 | cons x l =>
  obtain⟨b, off, us, rfl, q1, q2, q3, q4, q5⟩:=h (by simp)
  exact .row sz enc d _ b off c _ us q1 q2 rfl h1 h2 q3 q4 q5
theorem b6 {E sz:Nat} {α:Type} {enc:α→List V} {d:α} {l:List α} {u:Value} (h:aJ S μ w u (.arr E sz enc d l)) :
  ∃p c, u=.slice p l.length c∧l.length≤c∧c≤maxLen∧(p=none→c=0)∧(0<l.length→∃g, p=some ⟨g, 0, none⟩):=by
 obtain⟨_, xs, ⟨h1, h2⟩, _⟩:=h
 rcases h2 with ⟨rfl, hl⟩ | ⟨g, cap, cur, rfl, hg, hh, q1, q2, _⟩
 ·exact⟨none, 0, by rw[hl], by omega, by simp[maxLen], fun _=>rfl, fun h=>by omega⟩
 ·exact⟨_, cap, rfl, q1, q2, (fun h=>by cases h), fun _=>⟨g, rfl⟩⟩
theorem iA {E sz n:Nat} {gs:List Nat} {cell:Nat→Nat→D} {u:Value} (h:aJ S μ w u (.arrD E sz n gs cell)) :
  ∃p c, u=.slice p n c∧n≤c∧c≤maxLen∧(p=none→c=0)∧(0<n→∃g, p=some ⟨g, 0, none⟩):=by
 obtain⟨_, xs, ⟨h1, h2⟩, _⟩:=h
 rcases h2 with ⟨rfl, hl⟩ | ⟨g, cap, cur, rfl, hg, hh, q1, q2, _⟩
 ·exact⟨none, 0, by rw[hl], by omega, by simp[maxLen], fun _=>rfl, fun h=>by omega⟩
 ·exact⟨_, cap, rfl, q1, q2, (fun h=>by cases h), fun _=>⟨g, rfl⟩⟩
theorem bM {k:IntKind} {n:Int} {u:Value} (h:ak S μ w (.v (.int k n)) u):u=.int k n:=by
 cases h with | v _ _ h=>cases h;rfl
theorem ff {b:Bool} {u:Value} (h:ak S μ w (.v (.bool b)) u):u=.bool b:=by
 cases h with | v _ _ h=>cases h;rfl
theorem fg {s:ByteArray} {u:Value} (h:ak S μ w (.v (.str s)) u):u=.string s:=by
 cases h with | v _ _ h=>cases h;rfl
theorem bg {x:V} {u:Value} (h:ak S μ w (.v x) u):de S w x u:=by
 cases h with | v _ _ h=>exact h
theorem bQ {id:Nat} {u:Value} (h:ak S μ w (.own id) u):u=μ id:=by
 cases h;rfl
theorem fh {t e:TypeId} {p:Addr} {len c:Nat} {k:IntKind} {n:Int} (hu:P.underlying t=some (.slice e)) (hk:ct P e=true) (h0:0≤n) (h1:n<len) :
  (Instr.indexAt t (.slice (some p) len c) (.int k n)).run P w=.ok (.pointer (some (p.add (n.toNat*aD P e)))) w:=by
 unfold Instr.indexAt
 simp only[asIntOf, Sem.run_bind, Sem.run_pure, Result.andThen_ok, run_underlying hu]
 rw[if_pos ⟨h0, h1⟩]
 simp only[Sem.run_bind, dn hk, Result.andThen_ok, Sem.run_pure]
theorem s9 {t e:TypeId} {p:Addr} {len:Nat} {k:IntKind} {n:Int} (hu:P.underlying t=some (.array len e)) (hk:ct P e=true) (h0:0≤n) (h1:n<len) :
  (Instr.indexAt t (.pointer (some p)) (.int k n)).run P w=.ok (.pointer (some (p.add (n.toNat*aD P e)))) w:=by
 unfold Instr.indexAt
 simp only[asIntOf, Sem.run_bind, Sem.run_pure, Result.andThen_ok, run_underlying hu, Instr.sureAddr]
 rw[if_pos ⟨h0, h1⟩]
 simp only[Sem.run_bind, dn hk, Result.andThen_ok, Sem.run_pure]
theorem rM {t:TypeId} {H:List aq} (hH:a9 S μ w H) {x i d:D} {p:Prop} {ux ui:Value} (hx:ak S μ w x ux) (hi:ak S μ w i ui) (hp:pD P t H x i=(d, p)) (hob:p) :
  ∃u, (Instr.indexAt t ux ui).run P w=.ok u w∧ak S μ w d u:=by
 unfold pD at hp
 split at hp
 ·rename_i e sz α enc d' l k n hu
  split at hp
  ·rename_i hc
   simp only[Bool.and_eq_true, Nat.beq_eq]at hc
   obtain⟨hk, rfl⟩:=hc
   simp only[Prod.mk.injEq]at hp
   obtain⟨rfl, rfl⟩:=hp
   obtain⟨h0, h1⟩:=hob
   rw[bM hi]
   obtain⟨q, c, rfl, q1, q2, q3, q4⟩:=fe (bg hx)
   obtain⟨b, off, us, rfl, r1, r2, r3, r4, r5⟩:=q4 (by omega)
   refine⟨_, fh hu hk h0 (by omega), ?_⟩
   have hl:l[n.toNat]?=some (l.getD n.toNat d'):=by rw[d9 _ _ (by omega)];exact List.getElem?_eq_getElem (by omega)
   rw[cZ]
   have:=ak.iptr (S:=S) (μ:=μ) (w:=w) (enc (l.getD n.toNat d')) 0 b (off+n.toNat*aD P e) (us n.toNat) r1 r2 (fun j y hy=>by rw[Nat.add_assoc];exact r4 _ _ _ _ hl hy) (fun j y hy=>r5 _ _ _ _ hl hy)
   rwa [Nat.add_zero]at this
  ·cases hp;exact hob.elim
 ·rename_i e id k n hu
  split at hp
  ·rename_i E sz α enc d' l hbox
   split at hp
   ·rename_i hc
    simp only[Bool.and_eq_true, Nat.beq_eq]at hc
    obtain⟨hk, rfl⟩:=hc
    simp only[Prod.mk.injEq]at hp
    obtain⟨rfl, rfl⟩:=hp
    obtain⟨h0, h1⟩:=hob
    rw[bM hi, bQ hx]
    obtain⟨q, c, hm, q1, q2, q3, q4⟩:=b6 (hH.box id _ hbox)
    obtain⟨g, rfl⟩:=q4 (by omega)
    rw[hm]
    refine⟨_, fh hu hk h0 (by omega), ?_⟩
    rw[cZ, Nat.zero_add]
    have:=ak.ptr (S:=S) (w:=w) id n.toNat (aD P e) 0 g (by rw[hm];rfl:aG (μ id)=some g)
    rwa [Nat.add_zero]at this
   ·cases hp;exact hob.elim
  ·rename_i E sz α enc d' l hbox
   split at hp
   ·rename_i hc
    simp only[Bool.and_eq_true, Nat.beq_eq]at hc
    obtain⟨hk, rfl⟩:=hc
    simp only[Prod.mk.injEq]at hp
    obtain⟨rfl, rfl⟩:=hp
    obtain⟨h0, h1⟩:=hob
    rw[bM hi, bQ hx]
    obtain⟨q, c, hm, q1, q2, q3, q4⟩:=b6 (hH.box id _ hbox).ro_arr
    obtain⟨g, rfl⟩:=q4 (by omega)
    rw[hm]
    refine⟨_, fh hu hk h0 (by omega), ?_⟩
    rw[cZ, Nat.zero_add]
    have:=ak.ptr (S:=S) (w:=w) id n.toNat (aD P e) 0 g (by rw[hm];rfl:aG (μ id)=some g)
    rwa [Nat.add_zero]at this
   ·cases hp;exact hob.elim
  ·rename_i E sz m gs cell hbox
   split at hp
   ·rename_i hc
    simp only[Bool.and_eq_true, Nat.beq_eq]at hc
    obtain⟨hk, rfl⟩:=hc
    simp only[Prod.mk.injEq]at hp
    obtain⟨rfl, rfl⟩:=hp
    obtain⟨h0, h1⟩:=hob
    rw[bM hi, bQ hx]
    obtain⟨q, c, hm, q1, q2, q3, q4⟩:=iA (hH.box id _ hbox)
    obtain⟨g, rfl⟩:=q4 (by omega)
    rw[hm]
    refine⟨_, fh hu hk h0 (by omega), ?_⟩
    rw[cZ, Nat.zero_add]
    have:=ak.ptr (S:=S) (w:=w) id n.toNat (aD P e) 0 g (by rw[hm];rfl:aG (μ id)=some g)
    rwa [Nat.add_zero]at this
   ·cases hp;exact hob.elim
  ·cases hp;exact hob.elim
 ·rename_i x _ _ _ len e k n hu
  split at hp
  ·rename_i hk
   generalize hq:ub (n.toNat*aD P e) x=q at hp
   obtain⟨y, p'⟩:=q
   simp only[Prod.mk.injEq]at hp
   obtain⟨rfl, rfl⟩:=hp
   obtain⟨⟨h0, h1⟩, hob⟩:=hob
   obtain⟨b, o, rfl, hd⟩:=qi hx hq hob
   rw[bM hi]
   exact⟨_, s9 hu hk h0 (by omega), by rw[cZ];exact hd⟩
  ·cases hp;exact hob.elim
 ·cases hp;exact hob.elim
theorem gy {t:TypeId} {cs:List D} {us:Array Value} {off:Nat} {d:D} {p:Prop} (hs:us.size=cs.length) (h:∀(j:Nat) (y:D) (u:Value), cs[j]?=some y→us[j]?=some u→ak S μ w y u)
  (hp:cR P t cs off=(d, p)) (hob:p):∃u, (part t us off).run P w=.ok u w∧ak S μ w d u:=by
 unfold cR at hp
 split at hp
 ·rename_i hc
  simp only[Bool.and_eq_true, Bool.or_eq_true, Nat.ble_eq, Nat.beq_eq]at hc
  obtain⟨⟨hk, hl⟩, hz⟩:=hc
  simp only[Prod.mk.injEq]at hp
  obtain⟨rfl, _⟩:=hp
  unfold part
  simp only[Sem.run_bind, vV hk, Result.andThen_ok]
  cases ha:vU P t
  ·simp only[Bool.false_eq_true, if_false]
   rw[ha]at hz
   have hs1:aD P t=1:=by simpa using hz
   have hlt:off<cs.length:=by omega
   have hu:us[off]?=some us[off]:=Array.getElem?_eq_getElem (by omega)
   refine⟨us[off], by rw[hu];rfl, ?_⟩
   rw[d9 _ _ hlt]
   exact h off _ _ (List.getElem?_eq_getElem hlt) hu
  ·simp only[if_true]
   refine⟨.agg (us.extract off (off+aD P t)), by simp only[Sem.run_bind, dn hk, Result.andThen_ok, Sem.run_pure], .agg _ _ ?_ (fun j y u hy hu=>?_)⟩
   ·simp;omega
   ·rw[List.getElem?_take]at hy
    split at hy
    ·rename_i hj
     rw[List.getElem?_drop]at hy
     rw[Array.getElem?_extract, if_pos (by omega)]at hu
     exact h _ _ _ hy hu
    ·cases hy
 ·simp only[aN, Prod.mk.injEq]at hp
  obtain⟨_, rfl⟩:=hp
  exact hob.elim
theorem ec {cs:List D} {u:Value} (h:ak S μ w (.agg cs) u):∃us:Array Value, u=.agg us∧us.size=cs.length∧∀(j:Nat) (y:D) (u:Value), cs[j]?=some y→us[j]?=some u→ak S μ w y u:=by
 cases h with | agg _ us h1 h2=>exact⟨us, rfl, h1, h2⟩
theorem tq {cs:List D} {u:Value} (h:ak S μ w (.tup cs) u):∃us:Array Value, u=.tuple us∧us.size=cs.length∧∀(j:Nat) (y:D) (u:Value), cs[j]?=some y→us[j]?=some u→ak S μ w y u:=by
 cases h with | tup _ us h1 h2=>exact⟨us, rfl, h1, h2⟩
theorem xk {t:TypeId} {x d:D} {f:Nat} {p:Prop} {ux:Value} (hx:ak S μ w x ux) (hp:Ap P t x f=(d, p)) (hob:p) :
  ∃u, (Instr.field t ux f).run P w=.ok u w∧ak S μ w d u:=by
 unfold Ap at hp
 split at hp
 ·rename_i fs cs hu
  split at hp
  ·rename_i fld hf
   obtain⟨us, rfl, h1, h2⟩:=ec hx
   obtain⟨u, h3, h4⟩:=gy (P:=P) h1 h2 hp hob
   exact⟨u, by simp only[Instr.field, Sem.run_bind, run_underlying hu, Result.andThen_ok, hf, asAgg, Sem.run_pure, h3], h4⟩
  ·cases hp;exact hob.elim
 ·cases hp;exact hob.elim
theorem xl {t:TypeId} {x i d:D} {p:Prop} {ux ui:Value} (hx:ak S μ w x ux) (hi:ak S μ w i ui) (hp:Aq P t x i=(d, p)) (hob:p) :
  ∃u, (Instr.index t ux ui).run P w=.ok u w∧ak S μ w d u:=by
 unfold Aq at hp
 split at hp
 ·rename_i len e cs k n hu
  generalize hq:cR P e cs (n.toNat*aD P e)=q at hp
  obtain⟨y, p'⟩:=q
  simp only[Prod.mk.injEq]at hp
  obtain⟨rfl, rfl⟩:=hp
  obtain⟨⟨h0, h1⟩, hob⟩:=hob
  rw[bM hi]
  obtain⟨us, rfl, h2, h3⟩:=ec hx
  have hk:ct P e=true:=by
   unfold cR at hq
   split at hq
   ·rename_i hc
    simp only[Bool.and_eq_true]at hc
    exact hc.1.1
   ·cases hq;exact hob.elim
  obtain⟨u, h4, h5⟩:=gy (P:=P) h2 h3 hq hob
  refine⟨u, ?_, h5⟩
  unfold Instr.index
  simp only[asIntOf, Sem.run_bind, Sem.run_pure, Result.andThen_ok, run_underlying hu]
  rw[if_pos ⟨h0, h1⟩]
  simp only[Sem.run_bind, dn hk, Result.andThen_ok, h4]
 ·rename_i s k n hu
  simp only[Prod.mk.injEq]at hp
  obtain⟨rfl, rfl⟩:=hp
  obtain⟨h0, h1⟩:=hob
  rw[bM hi, fg hx]
  have hn:n.toNat<s.size:=by omega
  have hs:s[n.toNat]?=some s[n.toNat]:=by simp[hn]
  refine⟨.int .u8 (s[n.toNat]).toNat, ?_, ?_⟩
  ·unfold Instr.index
   simp only[asIntOf, Sem.run_bind, Sem.run_pure, Result.andThen_ok, run_underlying hu]
   rw[if_pos h0, hs]
   rfl
  ·rw[hs]
   exact .v _ _ (.int _ _)
 ·cases hp;exact hob.elim
end
end Go.Proofs.YtckgpflobhpnpaaGreat
namespace Go.Proofs.YtckgpflobhpnpaaGreat
open Go.RowKit
set_option linter.unusedVariables false
set_option linter.unusedSimpArgs false
def Av (op:BinOp) (k:IntKind) (a b:Int):R1 :=
 match op with
 | .add=>(.v (.int k (k.wrap (a+b))), True)
 | .sub=>(.v (.int k (k.wrap (a-b))), True)
 | .mul=>(.v (.int k (k.wrap (a*b))), True)
 | .quo=>(.v (.int k (k.wrap (a.tdiv b))), b≠0)
 | .rem=>(.v (.int k (a.tmod b)), b≠0)
 | .and=>(.v (.int k (k.wrap (BitVec.ofInt k.bits a &&& BitVec.ofInt k.bits b).toNat)), True)
 | .or=>(.v (.int k (k.wrap (BitVec.ofInt k.bits a ||| BitVec.ofInt k.bits b).toNat)), True)
 | .xor=>(.v (.int k (k.wrap (BitVec.ofInt k.bits a ^^^ BitVec.ofInt k.bits b).toNat)), True)
 | .andNot=>(.v (.int k (k.wrap (BitVec.ofInt k.bits a &&& ~~~(BitVec.ofInt k.bits b)).toNat)), True)
 | .eql=>(.v (.bool (a==b)), True)
 | .neq=>(.v (.bool (a != b)), True)
 | .lss=>(.v (.bool (decide (a<b))), True)
 | .leq=>(.v (.bool (decide (a≤b))), True)
 | .gtr=>(.v (.bool (decide (a>b))), True)
 | .geq=>(.v (.bool (decide (a≥b))), True)
 | _=>aN
def B3:BinOp→Bool | .shl=>true | .shr=>true | _=>false
def Aw (op:BinOp) (k:IntKind) (a b:Int):R1 :=
 match op with
 | .shl=>(.v (.int k (k.wrap (a*2^min b.toNat k.bits))), 0≤b)
 | .shr=>(.v (.int k (a.fdiv (2^min b.toNat k.bits))), 0≤b)
 | _=>aN
def JM (op:BinOp) (x y:ByteArray):R1 :=
 match op with
 | .add=>(.v (.str (x++y)), ((x.size+y.size:Nat):Int)≤IntKind.i64.max)
 | .eql=>(.v (.bool (x.toList==y.toList)), True)
 | .neq=>(.v (.bool (!(x.toList==y.toList))), True)
 | _=>aN
def EV:Option TypeDesc→D→D→Option Bool
 | some (.int _), .v (.int k a), .v (.int k' b)=>if k==k' then some (a==b)else none
 | some .bool, .v (.bool a), .v (.bool b)=>some (a==b)
 | some .string, .v (.str a), .v (.str b)=>some (a.toList==b.toList)
 | _, _, _=>none
def tr (P:Program) (xs ys:List D) (f:Field):Option Bool :=
 if f.name ≠ "_" then EV (P.underlying f.type) (cR P f.type xs f.offset).1 (cR P f.type ys f.offset).1 else none
def lW (P:Program) (xs ys:List D):List Field→Option Bool
 | []=>some true
 | [f]=>tr P xs ys f
 | f::fs=>match tr P xs ys f, lW P xs ys fs with
  | some a, some b=>some (a&&b)
  | _, _=>none
def vW (P:Program) (t:TypeId):Bool:=match P.underlying t with | some (.struct _)=>true | _=>false
def Jd (P:Program) (op:BinOp) (t:TypeId) (xs ys:List D):R1 :=
 if !P.stoodInHeld t&&!P.eqGuardType P.depth t&&vW P t then
  match lW P xs ys (P.fieldsOf t).toList, op with
  | some b, .eql=>(.v (.bool b), True)
  | some b, .neq=>(.v (.bool (!b)), True)
  | _, _=>aN
 else aN
def EW:D→Option (Bool×Prop)
 | .nils=>some (true, True)
 | .v .nsl=>some (true, True)
 | .v .esl=>some (false, True)
 | .v (.sl _ _ _ l)=>some (false, l≠[])
 | _=>none
def Ax:D→Option Bool
 | .v .nilf=>some true
 | .fn _ _ _=>some false
 | _=>none
def ud (P:Program) (t:TypeId):Bool:=match P.underlying t with | some (.slice _)=>true | _=>false
def xm (P:Program) (t:TypeId):Bool:=match P.underlying t with | some (.func _ _ _)=>true | _=>false
def yS (op:BinOp) (b:Bool) (p:Prop):R1:=match op with
 | .eql=>(.v (.bool b), p)
 | .neq=>(.v (.bool (!b)), p)
 | _=>aN
def JN (P:Program) (op:BinOp) (t:TypeId) (x y:D):R1 :=
 match x, y with
 | .v (.int k a), .v (.int k' b)=>if B3 op then Aw op k a b else if k==k' then Av op k a b else aN
 | .v (.str a), .v (.str b)=>JM op a b
 | .v (.bool a), .v (.bool b)=>match P.underlying t with
  | some .bool=>(match op with | .eql=>(.v (.bool (a==b)), True) | .neq=>(.v (.bool (!(a==b))), True) | _=>aN)
  | _=>aN
 | .agg xs, .agg ys=>Jd P op t xs ys
 | x, .nils=>match EW x with
  | some (b, p)=>if ud P t then yS op b p else aN
  | none=>aN
 | x, .v .nilf=>match Ax x with
  | some b=>if xm P t then yS op b True else aN
  | none=>aN
 | _, _=>aN
def M4 (op:UnOp) (x:D):R1 :=
 match op, x with
 | .neg, .v (.int k n)=>(.v (.int k (k.wrap (0-n))), True)
 | .xor, .v (.int k n)=>(.v (.int k (k.wrap (BitVec.ofInt k.bits (if k.signed then -1 else k.max) ^^^ BitVec.ofInt k.bits n).toNat)), True)
 | .not, .v (.bool b)=>(.v (.bool (!b)), True)
 | _, _=>aN
def EX (P:Program) (src dst:TypeId) (x:D):R1 :=
 if ct P src then
  match P.underlying dst, x with
  | some (.int k), .v (.int _ n)=>(match P.underlying src with | some .string=>aN | _=>(.v (.int k (k.wrap n)), True))
  | some .string, .v (.str s)=>(.v (.str s), True)
  | _, _=>aN
 else aN
def JO (P:Program) (t:TypeId) (H:List aq) (x:D):R1 :=
 match P.underlying t, x with
 | some .string, .v (.str s)=>(.v (.int .i64 (s.size:Int)), True)
 | some (.array n _), _=>(.v (.int .i64 (n:Int)), True)
 | some (.slice _), .v (.sl _ _ _ l)=>(.v (.int .i64 (l.length:Int)), True)
 | some (.slice _), .nils=>(.v (.int .i64 0), True)
 | some (.slice _), .v .nsl=>(.v (.int .i64 0), True)
 | some (.slice _), .v .esl=>(.v (.int .i64 0), True)
 | some (.slice _), .own id=>match H[id]? with
  | some (.arr _ _ _ _ l)=>(.v (.int .i64 (l.length:Int)), True)
  | some (.ro _ _ _ _ l)=>(.v (.int .i64 (l.length:Int)), True)
  | some (.arrD _ _ m _ _)=>(.v (.int .i64 (m:Int)), True)
  | _=>aN
 | _, _=>aN
def ta (x y:Int):Int:=if y<x then y else x
def JP (x y:Int):Int:=if y>x then y else x
section
variable {P:Program} {S:Nat→Prop} {μ:Nat→Value} {w:World}
def MW (n:Nat) (hi:Option Value) (h:Nat):Prop:=match hi with | none=>h=n | some v=>∃k, v=.int k h
def Ly (lo:Option Value) (l:Nat):Prop:=match lo with | none=>l=0 | some v=>∃k, v=.int k l
theorem gL {is:Bool} {n c l h:Nat} {lo hi:Option Value} (hh:MW n hi h) (hl:Ly lo l) (h1:l≤h) (h2:h≤c) :
  (Instr.sliceBounds is n c lo hi none).run P w=.ok (l, h, c) w:=by
 have sb:∀(k:IntKind) (x y:Nat) (code:BoundsCode), x≤y→(Instr.sliceBound (.int k (x:Int)) y code).run P w=.ok x w:=by
  intro k x y code hxy
  unfold Instr.sliceBound
  simp only[asIntOf, Sem.run_bind, Sem.run_pure, Result.andThen_ok]
  rw[if_pos ⟨by omega, by omega⟩]
  simp
 unfold Instr.sliceBounds
 cases hi with
 | none =>
  simp only[MW]at hh
  subst hh
  cases lo with
  | none =>
   simp only[Ly]at hl
   subst hl
   simp[Sem.run_bind]
  | some v =>
   obtain⟨k, rfl⟩:=hl
   simp[Sem.run_bind, sb _ _ _ _ h1]
 | some v =>
  obtain⟨k, rfl⟩:=hh
  cases lo with
  | none =>
   simp only[Ly]at hl
   subst hl
   simp[Sem.run_bind, sb _ _ _ _ h2]
  | some v =>
   obtain⟨k, rfl⟩:=hl
   simp[Sem.run_bind, sb _ _ _ _ h2, sb _ _ _ _ h1]
def qj (S:Nat→Prop) (μ:Nat→Value) (w:World):Option D→Option Value→Prop
 | none, none=>True
 | some d, some u=>ak S μ w d u
 | _, _=>False
theorem ue {d:D} (h:Ar d=true):∃k n, d=.v (.int k n)∧HD d=n:=by
 unfold Ar at h
 split at h
 ·exact⟨_, _, rfl, rfl⟩
 ·cases h
theorem Ay {lo:Option D} {ul:Option Value} (h:qj S μ w lo ul) (hi:xh lo=true) (h0:0≤pE lo):Ly ul (pE lo).toNat:=by
 cases lo with
 | none=>cases ul with
  | none=>simp[Ly, pE]
  | some _=>exact h.elim
 | some d=>cases ul with
  | none=>exact h.elim
  | some u =>
   obtain⟨k, n, rfl, hn⟩:=ue hi
   simp only[pE]at h0 ⊢
   rw[hn]at h0 ⊢
   rw[bM h]
   exact⟨k, by rw[Int.toNat_of_nonneg h0]⟩
theorem Az {hi:Option D} {uh:Option Value} {n:Nat} (h:qj S μ w hi uh) (hi':xh hi=true) (h0:0≤gZ n hi):MW n uh (gZ n hi).toNat:=by
 cases hi with
 | none=>cases uh with
  | none=>simp[MW, gZ]
  | some _=>exact h.elim
 | some d=>cases uh with
  | none=>exact h.elim
  | some u =>
   obtain⟨k, m, rfl, hn⟩:=ue hi'
   simp only[gZ]at h0 ⊢
   rw[hn]at h0 ⊢
   rw[bM h]
   exact⟨k, by rw[Int.toNat_of_nonneg h0]⟩
theorem vX {α:Type} (l:List α) (hi:Option D) (h:gZ l.length hi≤l.length):xi l hi=l.take (gZ l.length hi).toNat:=by
 cases hi with
 | none=>simp[xi, gZ]
 | some d=>rfl
theorem vC {t:TypeId} {x d:D} {lo hi mx:Option D} {p:Prop} {ux:Value} {ul uh um:Option Value} (hx:ak S μ w x ux) (hl:qj S μ w lo ul) (hh:qj S μ w hi uh) (hm:qj S μ w mx um)
  (hp:xj P t x lo hi mx=(d, p)) (hob:p):∃u, (Instr.sliceAt t ux ul uh um).run P w=.ok u w∧ak S μ w d u:=by
 unfold xj at hp
 split at hp
 ·rename_i e sz α enc d' l k1 h' k2 h hu
  split at hp
  ·rename_i hc
   simp only[Bool.and_eq_true, Nat.beq_eq]at hc
   obtain⟨hk, rfl⟩:=hc
   simp only[Prod.mk.injEq]at hp
   obtain⟨rfl, rfl⟩:=hp
   obtain⟨h0, h1, rfl⟩:=hob
   obtain⟨q, c, rfl, q1, q2, q3, q4⟩:=fe (bg hx)
   have hul:ul=none:=by cases ul with | none=>rfl | some _=>exact hl.elim
   subst hul
   cases uh with
   | none=>exact hh.elim
   | some vh =>
    cases um with
    | none=>exact hm.elim
    | some vm =>
     have ev:vh=.int k1 h:=by
      have:=bg hh
      cases this
      rfl
     have em:vm=.int k2 h:=by
      have:=bg hm
      cases this
      rfl
     subst ev em
     have sb:∀(k:IntKind) (y:Nat) (code:BoundsCode), h.toNat≤y→(Instr.sliceBound (.int k h) y code).run P w=.ok h.toNat w:=by
      intro k y code hxy
      unfold Instr.sliceBound
      simp only[asIntOf, Sem.run_bind, Sem.run_pure, Result.andThen_ok]
      rw[if_pos ⟨by omega, by omega⟩]
      simp
     have hr:(Instr.sliceBounds true l.length c none (some (.int k1 h)) (some (.int k2 h))).run P w=.ok (0, h.toNat, h.toNat) w:=by
      unfold Instr.sliceBounds
      simp[Sem.run_bind, sb k2 c _ (by omega), sb k1 h.toNat _ (Nat.le_refl _)]
     refine⟨.slice (if h.toNat=0 then q else q.map (·.add (0*aD P e))) h.toNat h.toNat, ?_, .capd _ _ _ (rL ?_ (by rw[List.length_take];omega) (by omega) ?_ (fun hpos=>?_))⟩
     ·unfold Instr.sliceAt
      simp only[Sem.run_bind, run_underlying hu, Result.andThen_ok]
      unfold Instr.slice
      simp only[Sem.run_bind, run_underlying hu, Result.andThen_ok, hr, dn hk, Sem.run_pure, Nat.sub_zero]
     ·rw[List.length_take];omega
     ·intro hn
      by_cases hca:h.toNat=0
      ·exact hca
      ·rw[if_neg hca]at hn
       have:=q3 (by simpa using hn)
       omega
     ·rw[List.length_take]at hpos
      obtain⟨bb, off, us, rfl, r1, r2, r3, r4, r5⟩:=q4 (by omega)
      have hget:∀(i:Nat) (x:α), (l.take h.toNat)[i]?=some x→l[i]?=some x:=by
       intro i x hx
       rw[List.getElem?_take]at hx
       split at hx
       ·exact hx
       ·cases hx
      refine⟨bb, off, us, ?_, r1, r2, fun i x hx=>r3 _ x (hget i x hx), fun i x j y hx hy=>r4 _ x j y (hget i x hx) hy, fun i x j y hx hy=>r5 _ x j y (hget i x hx) hy⟩
      rw[if_neg (by omega)]
      simp[cZ]
  ·cases hp;exact hob.elim
 ·cases hp;exact hob.elim
theorem B4:∀{cs:List V} {k:IntKind} {l:List Int}, rJ cs=some (k, l)→cs=l.map (fun x=>.int k x)
 | [], k, l, h=>by simp[rJ]at h
 | [.int k0 n], k, l, h=>by simp[rJ]at h;obtain⟨rfl, rfl⟩:=h;rfl
 | .int k0 n::y::r, k, l, h=>by
  unfold rJ at h
  ·split at h
   ·rename_i k' l' hr
    split at h
    ·rename_i hk
     have hk:k0=k':=by simpa using hk
     cases h
     have:=B4 hr
     subst hk
     rw[this];rfl
    ·cases h
   ·cases h
 | .bool _::_, _, _, h=>by simp[rJ]at h
 | .str _::_, _, _, h=>by simp[rJ]at h
 | .sl _ _ _ _::_, _, _, h=>by simp[rJ]at h
 | .mp _::_, _, _, h=>by simp[rJ]at h
 | .nilf::_, _, _, h=>by simp[rJ]at h
 | .nsl::_, _, _, h=>by simp[rJ]at h
 | .esl::_, _, _, h=>by simp[rJ]at h
theorem xn {t:TypeId} {x d:D} {lo hi mx:Option D} {p:Prop} {ux:Value} {ul uh um:Option Value} (hx:ak S μ w x ux) (hl:qj S μ w lo ul) (hh:qj S μ w hi uh) (hm:qj S μ w mx um)
  (hp:Au P t x lo hi mx=(d, p)) (hob:p):∃u, (Instr.sliceAt t ux ul uh um).run P w=.ok u w∧ak S μ w d u:=by
 unfold Au at hp
 split at hp
 ·exact vC hx hl hh hm hp hob
 split at hp
 ·rename_i hc
  simp only[Bool.and_eq_true]at hc
  obtain⟨⟨c1, c2⟩, c3⟩:=hc
  have hmx:mx=none:=by simpa using c3
  subst hmx
  have hum:um=none:=by cases um with | none=>rfl | some _=>exact hm.elim
  subst hum
  split at hp
  ·rename_i e sz α enc d' l hu
   split at hp
   ·rename_i hc
    simp only[Bool.and_eq_true, Nat.beq_eq]at hc
    obtain⟨hk, rfl⟩:=hc
    simp only[Prod.mk.injEq]at hp
    obtain⟨rfl, rfl⟩:=hp
    obtain⟨h0, h1, h2⟩:=hob
    obtain⟨q, c, rfl, q1, q2, q3, q4⟩:=fe (bg hx)
    have hr:=gL (P:=P) (w:=w) (is:=true) (c:=c) (Az (n:=l.length) hh c2 (by omega)) (Ay hl c1 h0) (by omega) (by omega)
    rw[vX _ _ h2]
    generalize hLo:(pE lo).toNat=a at *
    generalize hHi:(gZ l.length hi).toNat=b at *
    have hab:a≤b:=by omega
    have hbl:b≤l.length:=by omega
    refine⟨.slice (if c=a then q else q.map (·.add (a*aD P e))) (b-a) (c-a), ?_, .v _ _ (rL ?_ ?_ (by omega) ?_ (fun hpos=>?_))⟩
    ·unfold Instr.sliceAt
     simp only[Sem.run_bind, run_underlying hu, Result.andThen_ok]
     unfold Instr.slice
     simp only[Sem.run_bind, run_underlying hu, Result.andThen_ok, hr, dn hk, Sem.run_pure]
    ·rw[List.length_drop, List.length_take];omega
    ·rw[List.length_drop, List.length_take];omega
    ·intro hn
     by_cases hca:c=a
     ·omega
     ·rw[if_neg hca]at hn
      have:=q3 (by simpa using hn)
      omega
    ·rw[List.length_drop, List.length_take]at hpos
     obtain⟨bb, off, us, rfl, r1, r2, r3, r4, r5⟩:=q4 (by omega)
     have hget:∀(i:Nat) (x:α), ((l.take b).drop a)[i]?=some x→l[a+i]?=some x:=by
      intro i x hx
      rw[List.getElem?_drop, List.getElem?_take]at hx
      split at hx
      ·exact hx
      ·cases hx
     refine⟨bb, off+a*aD P e, fun i j=>us (a+i) j, ?_, r1, r2, fun i x hx=>r3 _ x (hget i x hx), fun i x j y hx hy=>?_, fun i x j y hx hy=>r5 _ x j y (hget i x hx) hy⟩
     ·rw[if_neg (by omega)]
      simp[cZ]
     ·have:=r4 (a+i) x j y (hget i x hx) hy
      rw[← this]
      congr 2
      rw[Nat.add_mul]
      omega
   ·cases hp;exact hob.elim
  ·rename_i s hu
   simp only[Prod.mk.injEq]at hp
   obtain⟨rfl, rfl⟩:=hp
   obtain⟨h0, h1, h2⟩:=hob
   rw[fg hx]
   have hr:=gL (P:=P) (w:=w) (is:=false) (c:=s.size) (Az (n:=s.size) hh c2 (by omega)) (Ay hl c1 h0) (by omega) (by omega)
   refine⟨_, ?_, .v _ _ (.str _)⟩
   unfold Instr.sliceAt
   simp only[Sem.run_bind, run_underlying hu, Result.andThen_ok]
   unfold Instr.slice
   simp only[Sem.run_bind, run_underlying hu, Result.andThen_ok, hr, Option.isSome_none, Bool.false_eq_true, if_false, Sem.run_pure]
  ·rename_i n e cs off hu
   split at hp
   ·rename_i k l hrow
    split at hp
    ·rename_i hc
     simp only[Bool.and_eq_true, Nat.beq_eq, Nat.ble_eq]at hc
     obtain⟨⟨⟨⟨hk, hsz⟩, hln⟩, rfl⟩, hmx⟩:=hc
     simp only[Prod.mk.injEq]at hp
     obtain⟨rfl, rfl⟩:=hp
     obtain⟨h0, h1, h2⟩:=hob
     have hcs:=B4 hrow
     subst hcs
     subst hln
     obtain⟨b, o, rfl, q2⟩:∃b o, ux=.pointer (some ⟨b, o+0, none⟩)∧ak S μ w (.iptr (l.map (fun x=>.int k x)) 0) ux:=by
      cases hx with
      | iptr _ _ b o us g1 g2 g3 g4=>exact⟨b, o, rfl, .iptr _ _ b o us g1 g2 g3 g4⟩
     have hr:=gL (P:=P) (w:=w) (is:=false) (c:=l.length) (Az (n:=l.length) hh c2 (by omega)) (Ay hl c1 h0) (by omega) (by omega)
     rw[vX _ _ h2]
     generalize hLo:(pE lo).toNat=a at *
     generalize hHi:(gZ l.length hi).toNat=c at *
     have hab:a≤c:=by omega
     have hbl:c≤l.length:=by omega
     have hq:∃(b' o':Nat) (us:Nat→Value), (⟨b, o+0, none⟩:Addr)=⟨b', o'+0, none⟩∧S b'∧b'<w.heap.size∧(∀(j:Nat) (y:V), (l.map (fun x=>V.int k x))[j]?=some y→w.cell? ⟨b', o'+j, none⟩=some (us j))∧(∀(j:Nat) (y:V), (l.map (fun x=>V.int k x))[j]?=some y→de S w y (us j)):=by
      generalize hd:D.iptr (l.map (fun x=>.int k x)) 0=dd at q2
      generalize hv:Value.pointer (some ⟨b, o+0, none⟩)=vv at q2
      cases q2 with
      | iptr cs' off' b' o' us g1 g2 g3 g4 =>
       cases hd
       simp only[Value.pointer.injEq, Option.some.injEq]at hv
       exact⟨b', o', us, hv, g1, g2, g3, g4⟩
      | _=>cases hd
     obtain⟨b', o', us, he, g1, g2, g3, g4⟩:=hq
     rw[he]
     refine⟨.slice (some (if l.length=a then ⟨b', o'+0, none⟩else (⟨b', o'+0, none⟩:Addr).add (a*aD P e))) (c-a) (l.length-a), ?_, .v _ _ (rL ?_ ?_ (by omega) (by intro h;cases h) (fun hpos=>?_))⟩
     ·unfold Instr.sliceAt
      simp only[Sem.run_bind, run_underlying hu, Result.andThen_ok, Instr.sureAddr, Sem.run_pure, hr, dn hk]
     ·rw[List.length_drop, List.length_take];omega
     ·rw[List.length_drop, List.length_take];omega
     ·rw[List.length_drop, List.length_take]at hpos
      have hget:∀(i:Nat) (x:Int), ((l.take c).drop a)[i]?=some x→l[a+i]?=some x:=by
       intro i x hx
       rw[List.getElem?_drop, List.getElem?_take]at hx
       split at hx
       ·exact hx
       ·cases hx
      refine⟨b', o'+a, fun i j=>us (a+i), ?_, g1, g2, fun i x _=>rfl, fun i x j y hx hy=>?_, fun i x j y hx hy=>?_⟩
      ·rw[if_neg (by omega), hsz]
       simp[cZ]
      ·have hj:j=0∧y=.int k x:=by
        cases j with
        | zero=>exact⟨rfl, by simpa using hy.symm⟩
        | succ j=>simp at hy
       obtain⟨rfl, rfl⟩:=hj
       have:=g3 (a+i) (.int k x) (by rw[List.getElem?_map, hget i x hx];rfl)
       rw[← this]
       congr 2
       omega
      ·have hj:y=.int k x:=by
        cases j with
        | zero=>simpa using hy.symm
        | succ j=>simp at hy
       subst hj
       exact g4 (a+i) _ (by rw[List.getElem?_map, hget i x hx];rfl)
    ·cases hp;exact hob.elim
   ·cases hp;exact hob.elim
  ·cases hp;exact hob.elim
 ·cases hp;exact hob.elim
theorem DI {op:BinOp} {k:IntKind} {a b:Int} {d:D} {p:Prop} (hs:B3 op=false) (hp:Av op k a b=(d, p)) (hob:p) (t:TypeId) :
  ∃u, (binOp op t (.int k a) (.int k b)).run P w=.ok u w∧ak S μ w d u:=by
 unfold Av at hp
 cases op<;>simp only[aN, Prod.mk.injEq]at hp<;>obtain⟨rfl, rfl⟩:=hp <;>
  first
  | exact hob.elim
  | (refine⟨_, ?_, .v _ _ (.int _ _)⟩;simp only[binOp, Op.intArith, Op.intDiv, Op.intBits, ne_eq, not_true_eq_false, if_false, Sem.run_pure];done)
  | (refine⟨_, ?_, .v _ _ (.int _ _)⟩;simp only[binOp, Op.intDiv, ne_eq, not_true_eq_false, if_false];rw[if_neg hob];rfl)
  | (refine⟨_, ?_, .v _ _ (.bool _)⟩;simp only[binOp, Op.intCmp, ne_eq, not_true_eq_false, if_false, Sem.run_pure];done)
theorem AA {op:BinOp} {k k':IntKind} {a b:Int} {d:D} {p:Prop} (hp:Aw op k a b=(d, p)) (hob:p) (t:TypeId) :
  ∃u, (binOp op t (.int k a) (.int k' b)).run P w=.ok u w∧ak S μ w d u:=by
 unfold Aw at hp
 cases op<;>simp only[aN, Prod.mk.injEq]at hp<;>obtain⟨rfl, rfl⟩:=hp <;>
  first
  | exact hob.elim
  | (refine⟨_, ?_, .v _ _ (.int _ _)⟩;simp only[binOp, Op.shift];rw[if_neg (by omega)];rfl)
theorem EY {op:BinOp} {a b:ByteArray} {d:D} {p:Prop} (hp:JM op a b=(d, p)) (hob:p) (t:TypeId) :
  ∃u, (binOp op t (.string a) (.string b)).run P w=.ok u w∧ak S μ w d u:=by
 unfold JM at hp
 cases op<;>simp only[aN, Prod.mk.injEq]at hp<;>obtain⟨rfl, rfl⟩:=hp <;>
  first
  | exact hob.elim
  | (refine⟨_, ?_, .v _ _ (.bool _)⟩;simp only[binOp, Op.stringOp];rfl)
  | (refine⟨_, ?_, .v _ _ (.str _)⟩;simp only[binOp, Op.stringOp];rw[if_neg (by omega)];rfl)
theorem dp {op:BinOp} {t:TypeId} {x y:Operand} {a b:Value} (h:∀us, a≠.agg us) (h':a≠.nilIface):(eqGuard op t x y a b).run P w=.ok () w:=by
 unfold eqGuard
 cases a<;>first | exact absurd rfl h' | exact absurd rfl (h _) | (split<;>rfl)
theorem im {t:TypeId} {cs:List D} {off:Nat} {x:V} (h:(cR P t cs off).1=.v x):cR P t cs off=(.v x, True):=by
 unfold cR at h ⊢
 split
 ·rename_i hc;rw[if_pos hc]at h;exact Prod.ext h rfl
 ·rename_i hc;rw[if_neg hc]at h;cases h
theorem o0 {xs ys:List D} {us vs:Array Value} (hx:us.size=xs.length∧∀(j:Nat) (y:D) (u:Value), xs[j]?=some y→us[j]?=some u→ak S μ w y u) (hy:vs.size=ys.length∧∀(j:Nat) (y:D) (u:Value), ys[j]?=some y→vs[j]?=some u→ak S μ w y u)
  {f:Field} {b:Bool} (h:tr P xs ys f=some b) (d:Nat):f.name ≠ "_" ∧ ∃u v, (part f.type us f.offset).run P w=.ok u w∧(part f.type vs f.offset).run P w=.ok v w∧(Op.equalIn (d+1) f.type u v).run P w=.ok b w:=by
 unfold tr at h
 split at h
 ·rename_i hn
  refine⟨hn, ?_⟩
  unfold EV at h
  split at h
  ·rename_i k0 k a k' c hu h1 h2
   obtain⟨u, hu1, hu2⟩:=gy hx.1 hx.2 (im h1) trivial
   obtain⟨v, hv1, hv2⟩:=gy hy.1 hy.2 (im h2) trivial
   rw[bM hu2]at hu1;rw[bM hv2]at hv1
   split at h
   ·rename_i hk
    have hk':k=k':=by simpa using hk
    subst hk'
    cases h
    exact⟨_, _, hu1, hv1, run_equalIn_int w d f.type k k0 a c hu⟩
   ·cases h
  ·rename_i a c hu h1 h2
   obtain⟨u, hu1, hu2⟩:=gy hx.1 hx.2 (im h1) trivial
   obtain⟨v, hv1, hv2⟩:=gy hy.1 hy.2 (im h2) trivial
   rw[ff hu2]at hu1;rw[ff hv2]at hv1
   cases h
   exact⟨_, _, hu1, hv1, run_equalIn_bool' w d f.type a c hu⟩
  ·rename_i a c hu h1 h2
   obtain⟨u, hu1, hu2⟩:=gy hx.1 hx.2 (im h1) trivial
   obtain⟨v, hv1, hv2⟩:=gy hy.1 hy.2 (im h2) trivial
   rw[fg hu2]at hu1;rw[fg hv2]at hv1
   cases h
   exact⟨_, _, hu1, hv1, run_equalIn_string w d f.type a c hu⟩
  ·cases h
 ·cases h
theorem lZ {xs ys:List D} {us vs:Array Value} (hx:us.size=xs.length∧∀(j:Nat) (y:D) (u:Value), xs[j]?=some y→us[j]?=some u→ak S μ w y u) (hy:vs.size=ys.length∧∀(j:Nat) (y:D) (u:Value), ys[j]?=some y→vs[j]?=some u→ak S μ w y u) (d:Nat) :
  ∀(fs:List Field) (b:Bool), lW P xs ys fs=some b→(Op.eqFields (d+1) us vs fs).run P w=.ok b w
 | [], b, h=>by cases h;simp[Op.eqFields]
 | [f], b, h=>by
  obtain⟨hn, u, v, h1, h2, h3⟩:=o0 hx hy h d
  cases b<;>simp[Op.eqFields, hn, Sem.run_bind, h1, h2, h3]
 | f::g::fs, b, h=>by
  unfold lW at h
  split at h
  ·rename_i a c ha hc
   cases h
   obtain⟨hn, u, v, h1, h2, h3⟩:=o0 hx hy ha d
   have ih:=lZ hx hy d (g::fs) c hc
   unfold Op.eqFields
   cases a
   ·simp[hn, Sem.run_bind, h1, h2, h3]
   ·simp only[ne_eq, hn, not_false_eq_true, if_true, Sem.run_bind, h1, h2, h3, Result.andThen_ok, Bool.not_true, Bool.false_eq_true, if_false, Bool.true_and]
    exact ih
  ·cases h
theorem xo {t:TypeId} (h:ud P t=true):∃e, P.underlying t=some (.slice e):=by
 unfold ud at h
 split at h
 ·exact⟨_, by assumption⟩
 ·cases h
theorem yT {t:TypeId} (h:xm P t=true):∃a b c, P.underlying t=some (.func a b c):=by
 unfold xm at h
 split at h
 ·exact⟨_, _, _, by assumption⟩
 ·cases h
theorem yU {x:D} {ux:Value} {b:Bool} {q:Prop} (hx:ak S μ w x ux) (hq:EW x=some (b, q)) (h:q):∃r n c, ux=.slice r n c∧r.isNone=b:=by
 unfold EW at hq
 split at hq
 ·cases hq;cases hx;exact⟨_, _, _, rfl, rfl⟩
 ·cases hq;have hx:=bg hx;cases hx;exact⟨_, _, _, rfl, rfl⟩
 ·cases hq;have hx:=bg hx;cases hx;exact⟨_, _, _, rfl, rfl⟩
 ·rename_i sz α enc d l
  cases hq
  obtain⟨p, c, rfl, _, _, _, h4⟩:=fe (bg hx)
  obtain⟨b, off, us, rfl, _⟩:=h4 (List.length_pos_iff.2 h)
  exact⟨_, _, _, rfl, rfl⟩
 ·cases hq
theorem xp {x:D} {ux:Value} {b:Bool} (hx:ak S μ w x ux) (hq:Ax x=some b):(b=true∧ux=.nilFunc)∨(b=false∧∃f us vs, ux=.func f us vs):=by
 unfold Ax at hq
 split at hq
 ·cases hq;have hx:=bg hx;cases hx;exact .inl ⟨rfl, rfl⟩
 ·cases hq;cases hx;exact .inr ⟨rfl, _, _, _, rfl⟩
 ·cases hq
theorem rN {op:BinOp} {t:TypeId} {b:Bool} {q p:Prop} {d:D} {ux uy:Value} (hp:yS op b q=(d, p)) (hob:p) (he:(Op.equal t ux uy).run P w=.ok b w) (hx:∀k n, ux≠.int k n:=by intros;intro h;cases h) (hf:∀k n, ux≠.float k n:=by intros;intro h;cases h)
  (hc:∀k a b, ux≠.complex k a b:=by intros;intro h;cases h) (hs:∀s, ux≠.string s:=by intros;intro h;cases h):∃u, (binOp op t ux uy).run P w=.ok u w∧ak S μ w d u:=by
 unfold yS at hp
 split at hp
 ·cases hp
  refine⟨.bool b, ?_, .v _ _ (.bool _)⟩
  unfold binOp
  cases ux<;>first | exact absurd rfl (hx _ _) | exact absurd rfl (hf _ _) | exact absurd rfl (hc _ _ _) | exact absurd rfl (hs _) | simp only[Sem.run_bind, he, Result.andThen_ok, Sem.run_pure]
 ·cases hp
  refine⟨.bool (!b), ?_, .v _ _ (.bool _)⟩
  unfold binOp
  cases ux<;>first | exact absurd rfl (hx _ _) | exact absurd rfl (hf _ _) | exact absurd rfl (hc _ _ _) | exact absurd rfl (hs _) | simp only[Sem.run_bind, he, Result.andThen_ok, Sem.run_pure]
 ·cases hp;exact hob.elim
theorem AB {op:BinOp} {t:TypeId} {x y d:D} {p:Prop} {ux uy:Value} (ox oy:Operand) (hx:ak S μ w x ux) (hy:ak S μ w y uy) (hp:JN P op t x y=(d, p)) (hob:p) :
  ∃u, (do eqGuard op t ox oy ux uy;binOp op t ux uy:Sem Value).run P w=.ok u w∧ak S μ w d u:=by
 unfold JN at hp
 split at hp
 ·rename_i k a k' b
  rw[bM hx, bM hy]
  simp only[Sem.run_bind, dp (P:=P) (w:=w) (a:=.int k a) (fun _ h=>by cases h) (fun h=>by cases h), Result.andThen_ok]
  split at hp
  ·exact AA hp hob t
  ·rename_i hs
   split at hp
   ·rename_i hk
    have:k=k':=by simpa using hk
    subst this
    exact DI (by simpa using hs) hp hob t
   ·cases hp;exact hob.elim
 ·rename_i a b
  rw[fg hx, fg hy]
  simp only[Sem.run_bind, dp (P:=P) (w:=w) (a:=.string a) (fun _ h=>by cases h) (fun h=>by cases h), Result.andThen_ok]
  exact EY hp hob t
 ·rename_i a b
  rw[ff hx, ff hy]
  simp only[Sem.run_bind, dp (P:=P) (w:=w) (a:=.bool a) (fun _ h=>by cases h) (fun h=>by cases h), Result.andThen_ok]
  split at hp
  ·rename_i hu
   have he:(Op.equal t (.bool a) (.bool b)).run P w=.ok (a==b) w:=by
    unfold Op.equal
    rw[show Op.maxDepth=9999+1 from rfl, Op.equalIn]
    simp only[Sem.run_bind, run_underlying hu, Result.andThen_ok, Sem.run_pure]
   cases op<;>simp only[aN, Prod.mk.injEq]at hp<;>obtain⟨rfl, rfl⟩:=hp <;>
    first
    | exact hob.elim
    | (refine⟨_, ?_, .v _ _ (.bool _)⟩;simp only[binOp, Sem.run_bind, he, Result.andThen_ok, Sem.run_pure])
  ·cases hp;exact hob.elim
 ·rename_i xs ys
  obtain⟨us, rfl, hx1, hx2⟩:=ec hx
  obtain⟨vs, rfl, hy1, hy2⟩:=ec hy
  unfold Jd at hp
  split at hp
  ·rename_i hc
   simp only[Bool.and_eq_true, Bool.not_eq_true']at hc
   obtain⟨⟨hs, hg⟩, ht⟩:=hc
   have hu:P.underlying t=some (.struct (P.fieldsOf t)):=by
    unfold vW at ht
    unfold Program.fieldsOf
    split at ht
    ·rename_i fs hfs;rw[hfs]
    ·cases ht
   have he:∀b, lW P xs ys (P.fieldsOf t).toList=some b→(Op.equalIn 10000 t (.agg us) (.agg vs)).run P w=.ok b w:=fun b hb=>by
    rw[show(10000:Nat)=9999+1 from rfl, run_equalIn_agg w 9999 t us vs hu hs]
    exact lZ ⟨hx1, hx2⟩ ⟨hy1, hy2⟩ 9998 _ b hb
   simp only[Sem.run_bind, run_eqGuard_agg (P:=P) w op t ox oy us vs hg, Result.andThen_ok]
   split at hp
   ·rename_i b hb
    cases hp
    exact⟨_, by rw[run_eql_struct, he b hb, Result.andThen_ok], .v _ _ (.bool _)⟩
   ·rename_i b hb
    cases hp
    exact⟨_, by rw[run_neq_struct, he b hb, Result.andThen_ok], .v _ _ (.bool _)⟩
   ·cases hp;exact hob.elim
  ·cases hp;exact hob.elim
 ·cases hy
  split at hp
  ·rename_i b q hq
   split at hp
   ·rename_i ht
    obtain⟨e, he⟩:=xo ht
    have hob':q:=by
     unfold yS at hp
     split at hp<;>cases hp<;>first | exact hob | exact hob.elim
    obtain⟨r, n, c, rfl, hr⟩:=yU hx hq hob'
    simp only[Sem.run_bind, dp (P:=P) (w:=w) (a:=.slice r n c) (fun _ h=>by cases h) (fun h=>by cases h), Result.andThen_ok]
    have heq:(Op.equal t (.slice r n c) (.slice none 0 0)).run P w=.ok b w:=by
     unfold Op.equal
     rw[show Op.maxDepth=9999+1 from rfl, Op.equalIn]
     simp only[Sem.run_bind, run_underlying he, Result.andThen_ok]
     cases r<;>simp at hr<;>subst hr<;>rfl
    exact rN hp hob heq
   ·cases hp;exact hob.elim
  ·cases hp;exact hob.elim
 ·have hy2:=bg hy
  cases hy2
  split at hp
  ·rename_i b hq
   split at hp
   ·rename_i ht
    obtain⟨e1, e2, e3, he⟩:=yT ht
    have hu:(b=true∧ux=.nilFunc)∨(b=false∧∃f us vs, ux=.func f us vs):=xp hx hq
    have heq:(Op.equal t ux .nilFunc).run P w=.ok b w:=by
     unfold Op.equal
     rw[show Op.maxDepth=9999+1 from rfl, Op.equalIn]
     simp only[Sem.run_bind, run_underlying he, Result.andThen_ok]
     rcases hu with ⟨rfl, rfl⟩ | ⟨rfl, f, us, vs, rfl⟩<;>rfl
    rw[Sem.run_bind, dp (P:=P) (w:=w) (a:=ux) (fun _ h=>by rcases hu with ⟨_, rfl⟩ | ⟨_, f, us, vs, rfl⟩<;>cases h) (fun h=>by rcases hu with ⟨_, rfl⟩ | ⟨_, f, us, vs, rfl⟩<;>cases h), Result.andThen_ok]
    rcases hu with ⟨h1, rfl⟩ | ⟨h1, f, us, vs, rfl⟩
    ·exact rN hp hob heq
    ·exact rN hp hob heq
   ·cases hp;exact hob.elim
  ·cases hp;exact hob.elim
 ·cases hp;exact hob.elim
theorem DJ {op:UnOp} {x d:D} {p:Prop} {ux:Value} (hx:ak S μ w x ux) (hp:M4 op x=(d, p)) (hob:p) :
  ∃u, (Op.unary op ux).run P w=.ok u w∧ak S μ w d u:=by
 unfold M4 at hp
 split at hp
 ·cases hp;rw[bM hx];exact⟨_, rfl, .v _ _ (.int _ _)⟩
 ·cases hp;rw[bM hx];exact⟨_, rfl, .v _ _ (.int _ _)⟩
 ·cases hp;rw[ff hx];exact⟨_, rfl, .v _ _ (.bool _)⟩
 ·cases hp;exact hob.elim
theorem yV {src dst:TypeId} {x d:D} {p:Prop} {ux:Value} (hx:ak S μ w x ux) (hp:EX P src dst x=(d, p)) (hob:p) :
  ∃u, (convert src dst ux).run P w=.ok u w∧ak S μ w d u:=by
 unfold EX at hp
 split at hp
 ·rename_i hk
  unfold ct at hk
  simp only[Bool.and_eq_true, Option.isSome_iff_exists]at hk
  obtain⟨_, s, hs⟩:=hk
  split at hp
  ·rename_i k k' n hd
   rw[bM hx]
   split at hp
   ·cases hp;exact hob.elim
   ·cases hp
    refine⟨_, ?_, .v _ _ (.int _ _)⟩
    unfold convert
    simp only[Sem.run_bind, run_underlying hs, run_underlying hd, Result.andThen_ok, Conv.intToInt]
    rfl
  ·rename_i s' hd
   cases hp
   rw[fg hx]
   refine⟨_, ?_, .v _ _ (.str _)⟩
   unfold convert
   simp only[Sem.run_bind, run_underlying hs, run_underlying hd, Result.andThen_ok]
   rfl
  ·cases hp;exact hob.elim
 ·cases hp;exact hob.elim
theorem AC {t ty:TypeId} {H:List aq} (hH:a9 S μ w H) {x d:D} {p:Prop} {ux:Value} (hx:ak S μ w x ux) (hp:JO P t H x=(d, p)) (hob:p) :
  ∃u, (Builtin.len_ #[t] ty #[ux]).run P w=.ok u w∧ak S μ w d u:=by
 have sl:∀(e:TypeId) (q:Option Addr) (n c:Nat), P.underlying t=some (.slice e)→(Builtin.len_ #[t] ty #[.slice q n c]).run P w=.ok (.int .i64 n) w:=by
  intro e q n c hu
  simp[Builtin.len_, Sem.run_bind, run_underlying hu, goInt]
 unfold JO at hp
 split at hp
 ·rename_i s hu
  cases hp
  rw[fg hx]
  exact⟨_, by simp[Builtin.len_, Sem.run_bind, run_underlying hu, goInt], .v _ _ (.int _ _)⟩
 ·rename_i n e hu
  cases hp
  exact⟨_, by simp[Builtin.len_, Sem.run_bind, run_underlying hu, goInt], .v _ _ (.int _ _)⟩
 ·rename_i e sz α enc d' l hu
  cases hp
  obtain⟨q, c, rfl, _⟩:=fe (bg hx)
  exact⟨_, sl _ _ _ _ hu, .v _ _ (.int _ _)⟩
 ·rename_i e hu
  cases hp
  cases hx
  exact⟨_, sl _ _ _ _ hu, .v _ _ (.int _ _)⟩
 ·rename_i e hu
  cases hp
  have hx:=bg hx
  cases hx
  exact⟨_, sl _ _ _ _ hu, .v _ _ (.int _ _)⟩
 ·rename_i e hu
  cases hp
  have hx:=bg hx
  cases hx
  exact⟨_, sl _ _ _ _ hu, .v _ _ (.int _ _)⟩
 ·rename_i e id hu
  split at hp
  ·rename_i E sz α enc d' l hb
   cases hp
   rw[bQ hx]
   obtain⟨q, c, hm, _⟩:=b6 (hH.box id _ hb)
   rw[hm]
   exact⟨_, sl _ _ _ _ hu, .v _ _ (.int _ _)⟩
  ·rename_i E sz α enc d' l hb
   cases hp
   rw[bQ hx]
   obtain⟨q, c, hm, _⟩:=b6 (hH.box id _ hb).ro_arr
   rw[hm]
   exact⟨_, sl _ _ _ _ hu, .v _ _ (.int _ _)⟩
  ·rename_i E sz m gs cell hb
   cases hp
   rw[bQ hx]
   obtain⟨q, c, hm, _⟩:=iA (hH.box id _ hb)
   rw[hm]
   exact⟨_, sl _ _ _ _ hu, .v _ _ (.int _ _)⟩
  ·cases hp;exact hob.elim
 ·cases hp;exact hob.elim
end
end Go.Proofs.YtckgpflobhpnpaaGreat
namespace Go.Proofs.YtckgpflobhpnpaaGreat
open Go.RowKit
set_option linter.unusedVariables false
set_option linter.unusedSimpArgs false
def jC (H:List aq):D→Option (List D)
 | .agg cs=>some cs
 | .tup _=>none
 | .junk=>none
 | .own id=>match H[id]? with | some (.arr _ _ _ _ _)=>some [.own id] | some (.ro _ _ _ _ _)=>some [.own id] | some (.mpb _ _ _ _ _)=>some [.own id] | some (.arrD _ _ _ _ _)=>some [.own id] | _=>none
 | d=>some [d]
def fk (cs new:List D) (off:Nat):List D:=cs.take off++new++cs.drop (off+new.length)
def gz (H:List aq) (place:Nat→Option (Nat×Nat)) (cells:List D):List (Nat×D)→Option (List D)
 | []=>some cells
 | (i, x)::rest=>match place i, jC H x with
  | some (off, size), some new=>if Nat.beq new.length size&&Nat.ble (off+new.length) cells.length then gz H place (fk cells new off) rest else none
  | _, _=>none
def iB (P:Program) (t:TypeId):Option (List D):=((P.info? t).bind (·.zero)).map fun z=>z.cells.toList.map D.ofVal1
def AD (P:Program) (H:List aq) (t:TypeId) (parts:List (Nat×D)):R1 :=
 match iB P t, P.underlying t with
 | some z, some (.struct fs)=>if fs.all (fun f=>ct P f.type)then
   match gz H (fun i=>(fs[i]?).map fun f=>(f.offset, aD P f.type)) z parts with
   | some cs=>(.agg cs, True)
   | none=>aN
  else aN
 | some z, some (.array _ e)=>if ct P e then
   match gz H (fun i=>some (i*aD P e, aD P e)) z parts with
   | some cs=>(.agg cs, True)
   | none=>aN
  else aN
 | _, _=>aN
def MX (f:Int→Int→Int) (x y:D):R1 :=
 match x, y with
 | .v (.int k a), .v (.int _ b)=>(.v (.int k (f a b)), True)
 | _, _=>aN
def Je (c a b:D):R1 :=
 match c with
 | .v (.bool t)=>(match t with | true=>a | false=>b, True)
 | _=>aN
def Lz:D→R1
 | .ptr id i sz off=>(.ptr id i sz off, True)
 | .iptr cs off=>(.iptr cs off, True)
 | .fn (.func f) a b=>(.fn (.func f) a b, True)
 | .yld id=>(.yld id, True)
 | _=>aN
def yW (x:D) (i:Nat):R1 :=
 match x with
 | .tup cs=>if Nat.blt i cs.length then (cs.getD i .junk, True)else aN
 | _=>aN
def vY (x y:D):Prop:=∀(S:Nat→Prop) (μ:Nat→Value) (w:World) (u:Value), ak S μ w x u→ak S μ w y u
def l5 {α:Type _} (d:α):List (ByteArray×α)→ByteArray→α
 | [], _=>d
 | (k', x)::r, k=>if k=k' then x else l5 d r k
def sI {α:Type _}:List (ByteArray×α)→ByteArray→Bool
 | [], _=>false
 | (k', _)::r, k=>if k=k' then true else sI r k
def o6 {α:Type _}:List (ByteArray×α)→ByteArray→α→List (ByteArray×α)
 | [], k, x=>[(k, x)]
 | (k', y)::r, k, x=>if k=k' then (k, x)::r else (k', y)::o6 r k x
theorem Oo (a b:ByteArray):(a==b)=decide (a=b):=by
 cases a with | mk x=>cases b with | mk y =>
 show(x==y)=_
 by_cases h:x=y
 ·subst h;simp
 ·rw[decide_eq_false (by simpa using h)];exact beq_eq_false_iff_ne.2 h
theorem Jf (a b:ByteArray):Instr.sameNow .string (.string a) (.string b)=some (decide (a=b)):=by
 show some (a==b)=_
 rw[Oo]
theorem EZ {α:Type _} {R:α→Value→Prop} (d:α) (k:ByteArray):∀(l:List (ByteArray×α)) (arr:List MapEntry) (n:Nat), arr.length=l.length→(∀(i:Nat) (k':ByteArray) (x:α), l[i]?=some (k', x)→∃e, arr[i]?=some e∧e.key=.string k'∧R x e.val) →
  (sI l k=false∧l5 d l k=d∧Instr.findNow .string (.string k) arr n=some none∧∀x, o6 l k x=l++[(k, x)]) ∨
  (sI l k=true∧∃(i:Nat) (e:MapEntry) (y:α), l[i]?=some (k, y)∧arr[i]?=some e∧e.key=.string k∧R y e.val∧Instr.findNow .string (.string k) arr n=some (some (n+i, e.val))∧l5 d l k=y∧∀x, o6 l k x=l.set i (k, x))
 | [], arr, n, hl, _=>by
  have:arr=[]:=List.length_eq_zero_iff.1 hl
  subst this
  exact .inl ⟨rfl, rfl, by simp[Instr.findNow], fun x=>rfl⟩
 | (k', x)::r, [], n, hl, _=>by simp at hl
 | (k', x)::r, a::arr, n, hl, h=>by
  obtain⟨e, he, hk, hr⟩:=h 0 k' x rfl
  simp only[List.getElem?_cons_zero, Option.some.injEq]at he
  subst he
  by_cases hkk:k=k'
  ·subst hkk
   refine .inr ⟨by rw[sI, if_pos rfl], 0, a, x, rfl, rfl, hk, hr, ?_, by rw[l5, if_pos rfl], fun y=>by rw[o6, if_pos rfl];rfl⟩
   unfold Instr.findNow
   rw[hk, Jf, decide_eq_true rfl]
   rfl
  ·have hf:Instr.findNow .string (.string k) (a::arr) n=Instr.findNow .string (.string k) arr (n+1):=by
    conv=>lhs;unfold Instr.findNow
    rw[hk, Jf, decide_eq_false hkk]
   rw[hf, sI, if_neg hkk, l5, if_neg hkk]
   rcases EZ d k r arr (n+1) (by simpa using hl) (fun i k' x hx=>by simpa using h (i+1) k' x (by simpa using hx))with ⟨h1, h0, h2, h3⟩ | ⟨h1, i, e, y, h2, h3, h4, h5, h6, h7, h8⟩
   ·exact .inl ⟨h1, h0, h2, fun y=>by rw[o6, if_neg hkk, h3];rfl⟩
   ·exact .inr ⟨h1, i+1, e, y, by simpa using h2, by simpa using h3, h4, h5, by rw[h6, show n+1+i=n+(i+1) by omega], h7, fun y=>by rw[o6, if_neg hkk, h8];rfl⟩
def vZ (P:Program) (t:TypeId):Option D:=((P.info? t).bind (·.zero)).map D.ofVal
def xq (P:Program) (H:List aq) (t:TypeId) (x ix:D) (c:Bool):R1 :=
 match P.underlying t, x, ix with
 | some (.map K E), .own id, .v (.str k)=>match P.underlying K, vZ P E, H[id]? with
  | some .string, some z, some (.mpb t' ag enc d l) =>
   if Nat.beq t t' then (if c then .tup [kx ag (enc (l5 d l k)), .v (.bool (sI l k))]else kx ag (enc (l5 d l k)), vY z (kx ag (enc d)))else aN
  | _, _, _=>aN
 | some (.map K E), .v (.sm ag enc d l), .v (.str k)=>match P.underlying K, vZ P E with
  | some .string, some z=>(if c then .tup [kx ag (enc (l5 d l k)), .v (.bool (sI l k))]else kx ag (enc (l5 d l k)), vY z (kx ag (enc d))∧(ag=false→∀p∈l, (enc p.2).length=1))
  | _, _=>aN
 | _, _, _=>aN
def fX (P:Program) (H:List aq) (ρ:Operand→D) (op:Op):R1 :=
 match op with
 | .move x=>(ρ x, True)
 | .assign x=>(ρ x, True)
 | .pick c a b=>Je (ρ c) (ρ a) (ρ b)
 | .load t a=>B2 P t H (ρ a)
 | .nilCheck x=>Lz (ρ x)
 | .binOp op t x y _=>JN P op t (ρ x) (ρ y)
 | .unOp op _ x=>M4 op (ρ x)
 | .convert src dst x=>EX P src dst (ρ x)
 | .makeFunc fn first cap=>(.fn fn (first.toList.map ρ) (cap.toList.map ρ), True)
 | .slice t x lo hi mx=>Au P t (ρ x) (lo.map ρ) (hi.map ρ) (mx.map ρ)
 | .fieldAddr s x f=>pC P s (ρ x) f
 | .field t x f=>Ap P t (ρ x) f
 | .indexAddr t x i=>pD P t H (ρ x) (ρ i)
 | .index t x i=>Aq P t (ρ x) (ρ i)
 | .extract x i=>yW (ρ x) i
 | .build t parts=>AD P H t (parts.toList.map fun p=>(p.1, ρ p.2))
 | .lookup t x ix c=>xq P H t (ρ x) (ρ ix) c
 | .call c=>match c.callee with
  | .builtin .len=>match c.args.toList, c.argTypes.toList with
   | [x], [t]=>JO P t H (ρ x)
   | _, _=>aN
  | .builtin .min=>match c.args.toList with
   | [x, y]=>MX ta (ρ x) (ρ y)
   | _=>aN
  | .builtin .max=>match c.args.toList with
   | [x, y]=>MX JP (ρ x) (ρ y)
   | _=>aN
  | _=>aN
 | _=>aN
section
variable {P:Program} {S:Nat→Prop} {μ:Nat→Value} {w:World}
theorem de.cells {x:V} {u:Value} (h:de S w x u):u.cells=#[u]:=by cases h<;>rfl
theorem hD {H:List aq} (hH:a9 S μ w H) {d:D} {u:Value} {cs:List D} (hd:ak S μ w d u) (hc:jC H d=some cs) :
  u.cells.size=cs.length∧∀(j:Nat) (y:D) (z:Value), cs[j]?=some y→u.cells[j]?=some z→ak S μ w y z:=by
 have one:∀(d:D) (u:Value), ak S μ w d u→u.cells=#[u]→cs=[d]→u.cells.size=cs.length∧∀(j:Nat) (y:D) (z:Value), cs[j]?=some y→u.cells[j]?=some z→ak S μ w y z:=by
  rintro d u hd hu rfl
  rw[hu]
  refine⟨rfl, fun j y z hy hz=>?_⟩
  cases j with
  | zero=>simp at hy hz;subst hy hz;exact hd
  | succ j=>simp at hy
 unfold jC at hc
 split at hc
 ·cases hc
  obtain⟨us, rfl, h1, h2⟩:=ec hd
  exact⟨h1, h2⟩
 ·cases hc
 ·cases hc
 ·split at hc
  ·rename_i E sz α enc d' l hb
   cases hc
   obtain⟨q, c, hm, _⟩:=b6 (hH.box _ _ hb)
   have hu:=bQ hd
   exact one _ _ hd (by rw[hu, hm];rfl) rfl
  ·rename_i E sz α enc d' l hb
   cases hc
   obtain⟨q, c, hm, _⟩:=b6 (hH.box _ _ hb).ro_arr
   have hu:=bQ hd
   exact one _ _ hd (by rw[hu, hm];rfl) rfl
  ·rename_i t ag α enc d' l hb
   cases hc
   obtain⟨b, arr, clock, hm, _⟩:=hH.box _ _ hb
   have hu:=bQ hd
   exact one _ _ hd (by rw[hu, hm];rfl) rfl
  ·rename_i E sz m gs cell hb
   cases hc
   obtain⟨q, c, hm, _⟩:=iA (hH.box _ _ hb)
   have hu:=bQ hd
   exact one _ _ hd (by rw[hu, hm];rfl) rfl
  ·cases hc
 ·rename_i h1 h2 h3 h4
  cases hc
  refine one _ _ hd ?_ rfl
  cases hd with
  | v x u h=>exact h.cells
  | nils=>rfl
  | own id=>exact absurd rfl (h4 id)
  | ptr=>rfl
  | iptr=>rfl
  | agg cs us _ _=>exact absurd rfl (h1 cs)
  | tup cs us _ _=>exact absurd rfl (h2 cs)
  | fn=>rfl
  | yld=>rfl
  | capd=>rfl
  | gr g r us u _ _ h=>cases u<;>first | rfl | cases h
  | junk u=>exact absurd rfl h3
def aM (S:Nat→Prop) (μ:Nat→Value) (w:World) (cs:List D) (us:Array Value):Prop :=
 us.size=cs.length∧∀(j:Nat) (y:D) (z:Value), cs[j]?=some y→us[j]?=some z→ak S μ w y z
theorem HF (new:Array Value) (cells:Array Value) (off:Nat):∀(n:Nat), n≤new.size→off+new.size≤cells.size →
  ((new.toList.zipIdx.take n).foldl (fun cs (p:Value×Nat)=>cs.setIfInBounds (off+p.2) p.1) cells).size=cells.size ∧
  ∀j, ((new.toList.zipIdx.take n).foldl (fun cs (p:Value×Nat)=>cs.setIfInBounds (off+p.2) p.1) cells)[j]?=if off≤j∧j<off+n then new[j-off]? else cells[j]?:=by
 intro n
 induction n with
 | zero=>intro _ _;exact⟨by simp, fun j=>by rw[if_neg (by omega)];simp⟩
 | succ n ih =>
  intro hn ho
  obtain⟨h1, h2⟩:=ih (by omega) ho
  have ht:new.toList.zipIdx.take (n+1)=new.toList.zipIdx.take n++[(new[n]'(by omega), n)]:=by
   rw[List.take_succ_eq_append_getElem (by simp;omega)]
   congr 1
   simp
  rw[ht, List.foldl_append]
  simp only[List.foldl_cons, List.foldl_nil]
  refine⟨by rw[Array.size_setIfInBounds];exact h1, fun j=>?_⟩
  by_cases hj:j=off+n
  ·subst hj
   rw[Array.getElem?_setIfInBounds_self_of_lt (by omega), if_pos (by omega), show off+n-off=n from by omega]
   simp
  ·rw[Array.getElem?_setIfInBounds_ne (by omega), h2 j]
   by_cases hc:off≤j∧j<off+n
   ·rw[if_pos hc, if_pos (by omega)]
   ·rw[if_neg hc, if_neg (by omega)]
theorem yX {cs new:List D} {us vs:Array Value} {off:Nat} (h:aM S μ w cs us) (hn:aM S μ w new vs) (ho:off+new.length≤cs.length) :
  aM S μ w (fk cs new off) (vs.zipIdx.foldl (fun cs (c, j)=>cs.setIfInBounds (off+j) c) us):=by
 have e:vs.zipIdx.foldl (fun cs (c, j)=>cs.setIfInBounds (off+j) c) us=(vs.toList.zipIdx.take vs.size).foldl (fun cs (p:Value×Nat)=>cs.setIfInBounds (off+p.2) p.1) us:=by
  rw[← Array.foldl_toList, Array.toList_zipIdx, List.take_of_length_le (by simp)]
 obtain⟨h1, h2⟩:=HF vs us off vs.size (Nat.le_refl _) (by rw[hn.1, h.1];exact ho)
 rw[← e]at h1 h2
 refine⟨by rw[h1, h.1];simp[fk];omega, fun j y z hy hz=>?_⟩
 rw[h2 j]at hz
 unfold fk at hy
 by_cases hc:off≤j∧j<off+vs.size
 ·rw[if_pos hc]at hz
  refine hn.2 (j-off) y z ?_ hz
  rw[List.getElem?_append_left (by simp;have:=hn.1;omega), List.getElem?_append_right (by simp;omega)]at hy
  rw[List.length_take, Nat.min_eq_left (by omega)]at hy
  exact hy
 ·rw[if_neg hc]at hz
  refine h.2 j y z ?_ hz
  have hs:=hn.1
  by_cases hj:j<off
  ·rw[List.getElem?_append_left (by simp;omega), List.getElem?_append_left (by simp;omega), List.getElem?_take, if_pos hj]at hy
   exact hy
  ·rw[List.getElem?_append_right (by simp;omega), List.getElem?_drop]at hy
   simp only[List.length_append, List.length_take]at hy
   rw[show off+new.length+(j-(min off cs.length+new.length))=j from by omega]at hy
   exact hy
theorem eW {H:List aq} (hH:a9 S μ w H) {place:Nat→Option (Nat×Nat)}:∀(parts:List (Nat×D)) (uparts:List (Nat×Value)) (cells out:List D) (us:Array Value),
  parts.map (·.1)=uparts.map (·.1)→(∀(j:Nat) (x:Nat×D) (u:Nat×Value), parts[j]?=some x→uparts[j]?=some u→ak S μ w x.2 u.2) →
  aM S μ w cells us→gz H place cells parts=some out→∃vs, Instr.fill place us uparts=some vs∧aM S μ w out vs
 | [], [], cells, out, us, _, _, hc, hf=>by
  simp only[gz, Option.some.injEq]at hf
  subst hf
  exact⟨us, rfl, hc⟩
 | [], _::_, _, _, _, h, _, _, _=>by simp at h
 | _::_, [], _, _, _, h, _, _, _=>by simp at h
 | (i, x)::parts, (i', u)::uparts, cells, out, us, hi, hr, hc, hf=>by
  simp only[List.map_cons, List.cons.injEq]at hi
  obtain⟨rfl, hi⟩:=hi
  unfold gz at hf
  split at hf
  ·rename_i off size new hp hn
   split at hf
   ·rename_i hcond
    simp only[Bool.and_eq_true, Nat.beq_eq, Nat.ble_eq]at hcond
    obtain⟨hl, ho⟩:=hcond
    have hcells:=hD hH (hr 0 _ _ rfl rfl) hn
    obtain⟨vs, h1, h2⟩:=eW hH parts uparts _ out _ hi (fun j x u hx hu=>hr (j+1) x u (by simpa using hx) (by simpa using hu)) (yX hc hcells ho) hf
    refine⟨vs, ?_, h2⟩
    unfold Instr.fill
    rw[hp]
    dsimp only
    have h9:u.cells.size=new.length:=hcells.1
    have h8:us.size=cells.length:=hc.1
    rw[if_neg (by simp only[Bool.or_eq_true, decide_eq_true_eq];omega)]
    exact h1
   ·cases hf
  ·cases hf
theorem gA {t:TypeId} {z:List D} (h:iB P t=some z):∃v, (zeroValue t).run P w=.ok v w∧aM S μ w z v.cells:=by
 unfold iB at h
 cases hi:P.info? t with
 | none=>simp[hi]at h
 | some i =>
  cases hz:i.zero with
  | none=>simp[hi, hz]at h
  | some v =>
   simp only[hi, hz, Option.bind_some, Option.map_some, Option.some.injEq]at h
   subst h
   refine⟨v, by simp[zeroValue, typeInfo, hi, hz, Sem.run_bind], by simp, fun j y u hy hu=>?_⟩
   simp only[List.getElem?_map, Array.getElem?_toList, hu, Option.map_some, Option.some.injEq]at hy
   subst hy
   exact ak.ofVal1 S μ w u
theorem lD:∀(l:List Field), l.all (fun f=>ct P f.type)=true→(l.mapM (fun f=>do pure (f.offset, ← sizeOf f.type):Field→Sem (Nat×Nat))).run P w=.ok (l.map fun f=>(f.offset, aD P f.type)) w
 | [], _=>rfl
 | f::l, h=>by
  simp only[List.all_cons, Bool.and_eq_true]at h
  have:=lD l h.2
  simp only[List.mapM_cons, Sem.run_bind, dn h.1, Result.andThen_ok, Sem.run_pure, this, List.map_cons]
theorem xr {H:List aq} (hH:a9 S μ w H) {t:TypeId} {parts:List (Nat×D)} {uparts:List (Nat×Value)} {d:D} {p:Prop} (h1:parts.map (·.1)=uparts.map (·.1))
  (h2:∀(j:Nat) (x:Nat×D) (u:Nat×Value), parts[j]?=some x→uparts[j]?=some u→ak S μ w x.2 u.2) (hp:AD P H t parts=(d, p)) (hob:p) :
  ∃u, (Instr.build t uparts.toArray).run P w=.ok u w∧ak S μ w d u:=by
 unfold AD at hp
 split at hp
 ·rename_i z fs hz hu
  split at hp
  ·rename_i hall
   split at hp
   ·rename_i cs hf
    cases hp
    obtain⟨v, hv, hr⟩:=gA (S:=S) (μ:=μ) (w:=w) hz
    obtain⟨vs, h3, h4⟩:=eW hH parts uparts z cs v.cells h1 h2 hr hf
    refine⟨.agg vs, ?_, .agg _ _ h4.1 h4.2⟩
    have hall':fs.toList.all (fun f=>ct P f.type)=true:=by simpa using hall
    have hm:=lD (P:=P) (w:=w) fs.toList hall'
    have hm2:(fs.mapM (fun f=>do pure (f.offset, ← sizeOf f.type):Field→Sem (Nat×Nat))).run P w=.ok (fs.toList.map fun f=>(f.offset, aD P f.type)).toArray w:=by
     rw[Array.mapM_eq_mapM_toList]
     have hb:∀(s:Sem (List (Nat×Nat))) (r:List (Nat×Nat)), s.run P w=.ok r w→((s.bind (Sem.pure ∘ List.toArray)):Sem (Array (Nat×Nat))).run P w=.ok r.toArray w:=by
      intro s r h
      show Sem.run P (s >>= (Sem.pure ∘ List.toArray)) w=_
      rw[Sem.run_bind, h]
      rfl
     exact hb _ _ hm
    unfold Instr.build
    simp only[Sem.run_bind, hv, run_underlying hu, Result.andThen_ok, hm2]
    have hpl:(fun (i:Nat)=>((fs.toList.map fun (f:Field)=>(f.offset, aD P f.type)).toArray)[i]?)=fun (i:Nat)=>(fs[i]?).map fun (f:Field)=>(f.offset, aD P f.type):=by
     funext i
     simp
    rw[hpl, h3]
    rfl
   ·cases hp;exact hob.elim
  ·cases hp;exact hob.elim
 ·rename_i z n e hz hu
  split at hp
  ·rename_i hk
   split at hp
   ·rename_i cs hf
    cases hp
    obtain⟨v, hv, hr⟩:=gA (S:=S) (μ:=μ) (w:=w) hz
    obtain⟨vs, h3, h4⟩:=eW hH parts uparts z cs v.cells h1 h2 hr hf
    refine⟨.agg vs, ?_, .agg _ _ h4.1 h4.2⟩
    unfold Instr.build
    simp only[Sem.run_bind, hv, run_underlying hu, Result.andThen_ok, dn hk]
    rw[h3]
    rfl
   ·cases hp;exact hob.elim
  ·cases hp;exact hob.elim
 ·cases hp;exact hob.elim
theorem sJ {w:World} {t K E:TypeId} {b clock:Nat} {arr:Array MapEntry} {k:ByteArray} (ht:P.underlying t=some (.map K E)) (hK:P.underlying K=some .string) (hb:w.heap[b]?=some (.map arr clock)) {r:Option (Nat×Value)} (hf:Instr.findNow .string (.string k) arr.toList 0=some r) {z:Value} (hz:r=none→(zeroValue E).run P w=.ok z w) (c:Bool) :
  (Instr.lookup t (.map (some b)) (.string k) c).run P w=.ok (if c then .tuple #[match r with | some (_, v)=>v | none=>z, .bool r.isSome]else match r with | some (_, v)=>v | none=>z) w:=by
 have hu:(underlying t).run P w=.ok (.map K E) w:=by simp[underlying, ht, Sem.run_bind, Sem.run]
 have hu2:(underlying K).run P w=.ok .string w:=by simp[underlying, hK, Sem.run_bind, Sem.run]
 have hg:(getObj b).run P w=.ok (.map arr clock) w:=by simp[getObj, Sem.run, hb]
 have hc:(Instr.checkKey arr.isEmpty 10000 K (.string k)).run P w=.ok () w:=by
  rw[show(10000:Nat)=9999+1 from rfl]
  unfold Instr.checkKey
  simp[Sem.run_bind, hu2]
 have hk:(Instr.findKey K (.string k) arr.toList).run P w=.ok r w:=by
  simp[Instr.findKey, Sem.run_bind, hu2, hf]
 cases r with
 | some q =>
  obtain⟨i, v⟩:=q
  cases c<;>simp[Instr.lookup, Sem.run_bind, hu, hg, hc, hk]
 | none =>
  cases c<;>simp[Instr.lookup, Sem.run_bind, hu, hg, hc, hk, hz rfl]
theorem v3 {ag:Bool} {α:Type} {enc:α→List V} {l:List (ByteArray×α)} {arr:Array MapEntry} (h:B1 S μ w ag enc l arr):arr.toList.length=l.length∧∀(i:Nat) (k':ByteArray) (x:α), l[i]?=some (k', x)→∃e, arr.toList[i]?=some e∧e.key=.string k'∧((ag=false→(enc x).length=1)∧ak S μ w (kx ag (enc x)) e.val) :=
 ⟨by simpa using h.1, fun i k' x hx=>by
  obtain⟨e, h1, h2, h3⟩:=h.2 i k' x hx
  exact⟨e, by simpa using h1, h2, h3⟩⟩
theorem DK {E:TypeId} {z:D} (hz:vZ P E=some z):∃v, (zeroValue E).run P w=.ok v w∧ak S μ w z v:=by
 unfold vZ at hz
 cases hi:P.info? E with
 | none=>simp[hi]at hz
 | some i =>
  cases hv:i.zero with
  | none=>simp[hi, hv]at hz
  | some v =>
   simp only[hi, hv, Option.bind_some, Option.map_some, Option.some.injEq]at hz
   refine⟨v, ?_, hz ▸ ak.ofVal S μ w v⟩
   simp[zeroValue, typeInfo, hi, hv, Sem.run_bind, Sem.run]
theorem E1 {ag:Bool} {α:Type} {enc:α→List V} {l:List (ByteArray×α)} {arr:Array MapEntry} {us:Nat→Nat→Value} (h4:arr.size=l.length) (h5:∀(i:Nat) (k:ByteArray) (x:α), l[i]?=some (k, x)→∃e, arr[i]?=some e∧e.key=.string k∧BZ ag (enc x).length e.val (us i)) (h6:∀(i:Nat) (k:ByteArray) (x:α) (j:Nat) (y:V), l[i]?=some (k, x)→(enc x)[j]?=some y→de S w y (us i j)) (h7:ag=false→∀p∈l, (enc p.2).length=1):B1 S μ w ag enc l arr:=by
 refine⟨h4, fun i k x hx=>?_⟩
 obtain⟨e, e1, e2, e3⟩:=h5 i k x hx
 refine⟨e, e1, e2, fun ha=>h7 ha _ (List.mem_of_getElem? hx), ?_⟩
 unfold BZ at e3
 cases ag
 ·simp only[Bool.false_eq_true, if_false]at e3
  have hl:=e3.1
  match hq:enc x, hl with
  | [y], _ =>
   rw[e3.2]
   exact .v _ _ (h6 i k x 0 y hx (by rw[hq];rfl))
 ·simp only[if_true]at e3
  obtain⟨a, ha, hs, hg⟩:=e3
  rw[ha]
  show ak S μ w (.agg ((enc x).map D.v)) _
  refine .agg _ _ (by rw[List.length_map];exact hs) (fun j y u hy hu=>?_)
  rw[List.getElem?_map]at hy
  cases hq:(enc x)[j]? with
  | none=>rw[hq]at hy;cases hy
  | some v =>
   rw[hq]at hy
   cases hy
   have:=hg j (List.getElem?_eq_some_iff.1 hq).1
   rw[this]at hu
   cases hu
   exact .v _ _ (h6 i k x j v hx hq)
theorem B5 {t K E:TypeId} {b clock:Nat} {arr:Array MapEntry} {ag:Bool} {α:Type} {enc:α→List V} {d0:α} {l:List (ByteArray×α)} {k:ByteArray} {c:Bool} {z:D} (hu:P.underlying t=some (.map K E)) (hK:P.underlying K=some .string) (hz:vZ P E=some z) (hb:w.heap[b]?=some (.map arr clock)) (hmap:B1 S μ w ag enc l arr) (hob:vY z (kx ag (enc d0))) :
  ∃u, (Instr.lookup t (.map (some b)) (.string k) c).run P w=.ok u w∧ak S μ w (if c then .tup [kx ag (enc (l5 d0 l k)), .v (.bool (sI l k))]else kx ag (enc (l5 d0 l k))) u:=by
 obtain⟨m1, m2⟩:=v3 hmap
 have hzv:∃v, (zeroValue E).run P w=.ok v w∧ak S μ w z v:=by
  unfold vZ at hz
  cases hi:P.info? E with
  | none=>simp[hi]at hz
  | some i =>
   cases hv:i.zero with
   | none=>simp[hi, hv]at hz
   | some v =>
    simp only[hi, hv, Option.bind_some, Option.map_some, Option.some.injEq]at hz
    refine⟨v, ?_, hz ▸ ak.ofVal S μ w v⟩
    simp[zeroValue, typeInfo, hi, hv, Sem.run_bind, Sem.run]
 obtain⟨zv, hz1, hz2⟩:=hzv
 rcases EZ (R:=fun x v=>(ag=false→(enc x).length=1)∧ak S μ w (kx ag (enc x)) v) d0 k l arr.toList 0 m1 m2 with ⟨h1, h0, h2, h3⟩ | ⟨h1, i, e, y, h2, h3, h4, h5, h6, h7, h8⟩
 ·have hr:=sJ (P:=P) hu hK hb h2 (z:=zv) (fun _=>hz1) c
  refine⟨_, hr, ?_⟩
  rw[h0, h1]
  have hd:=hob S μ w zv hz2
  cases c
  ·exact hd
  ·refine .tup _ _ rfl (fun j y u hy hu=>?_)
   match j, hy, hu with
   | 0, hy, hu=>cases hy;cases hu;exact hd
   | 1, hy, hu=>cases hy;cases hu;exact .v _ _ (.bool _)
   | j+2, hy, hu=>simp at hy
 ·have hr:=sJ (P:=P) hu hK hb h6 (z:=undef) (fun h=>by cases h) c
  refine⟨_, hr, ?_⟩
  rw[h7, h1]
  cases c
  ·exact h5.2
  ·refine .tup _ _ rfl (fun j y u hy hu=>?_)
   match j, hy, hu with
   | 0, hy, hu=>cases hy;cases hu;exact h5.2
   | 1, hy, hu=>cases hy;cases hu;exact .v _ _ (.bool _)
   | j+2, hy, hu=>simp at hy
theorem vD {H:List aq} (hH:a9 S μ w H) {t:TypeId} {x ix:D} {ux ui:Value} {c:Bool} {d:D} {p:Prop} (hx:ak S μ w x ux) (hi:ak S μ w ix ui) (hp:xq P H t x ix c=(d, p)) (hob:p) :
  ∃u, (Instr.lookup t ux ui c).run P w=.ok u w∧ak S μ w d u:=by
 unfold xq at hp
 split at hp
 ·rename_i K E id k hu
  split at hp
  ·rename_i z t' ag α enc d0 l hK hz hbox
   split at hp
   ·cases hp
    have e1:=bQ hx
    have e2:=fg hi
    subst e1 e2
    obtain⟨b, arr, clock, hm, hb, hmap⟩:=hH.box id _ hbox
    rw[hm]
    exact B5 hu hK hz hb hmap hob
   ·cases hp;exact hob.elim
  ·cases hp;exact hob.elim
 ·rename_i K E ag α enc d0 l k hu
  split at hp
  ·rename_i z hK hz
   cases hp
   have e2:=fg hi
   subst e2
   have hr:=bg hx
   cases hr with
   | smn =>
    obtain⟨zv, hz1, hz2⟩:=DK (P:=P) (S:=S) (μ:=μ) (w:=w) hz
    have hu1:(underlying t).run P w=.ok (.map K E) w:=by simp[underlying, hu, Sem.run_bind, Sem.run]
    have hu2:(underlying K).run P w=.ok .string w:=by simp[underlying, hK, Sem.run_bind, Sem.run]
    have hc:(Instr.checkKey true 10000 K (.string k)).run P w=.ok () w:=by
     rw[show(10000:Nat)=9999+1 from rfl]
     unfold Instr.checkKey
     simp[Sem.run_bind, hu2]
    have hf:(Instr.findKey K (.string k) ([]:List MapEntry)).run P w=.ok none w:=by simp[Instr.findKey, Sem.run_bind, hu2, Instr.findNow]
    have hd:=hob.1 S μ w zv hz2
    cases c
    ·exact⟨zv, by simp[Instr.lookup, Sem.run_bind, hu1, hc, hf, hz1], hd⟩
    ·refine⟨.tuple #[zv, .bool false], by simp[Instr.lookup, Sem.run_bind, hu1, hc, hf, hz1], .tup _ _ rfl (fun j y u hy hu=>?_)⟩
     match j, hy, hu with
     | 0, hy, hu=>cases hy;cases hu;exact hd
     | 1, hy, hu=>cases hy;cases hu;exact .v _ _ (.bool _)
     | j+2, hy, hu=>simp at hy
   | sm _ _ _ _ b clock arr us h1 h2 h3 h4 h5 h6 =>
    exact B5 hu hK hz h3 (E1 h4 h5 h6 hob.2) hob.1
  ·cases hp;exact hob.elim
 ·cases hp;exact hob.elim
theorem hE {H:List aq} (hH:a9 S μ w H) {ρ:Operand→D} {ρ':Operand→Value} (hρ:∀x, ak S μ w (ρ x) (ρ' x)) {o:Oper} {d:D} {p:Prop} (hp:fX P H ρ o.op=(d, p)) (hob:p) :
  ∃u, (execOp ρ' o).run P w=.ok (.value u) w∧ak S μ w d u:=by
 have hv:∀(s:Sem Value) (u:Value), s.run P w=.ok u w→(do pure (.value (← s)):Sem Next).run P w=.ok (.value u) w:=by
  intro s u h
  simp only[Sem.run_bind, h, Result.andThen_ok, Sem.run_pure]
 have hO:∀x:Option Operand, qj S μ w (x.map ρ) (x.map ρ'):=by
  intro x
  cases x with
  | none=>trivial
  | some x=>exact hρ x
 unfold fX at hp
 unfold execOp
 generalize ho:o.op=op at *
 cases op<;>(try simp only at hp)<;>(try (simp only[aN, Prod.mk.injEq]at hp;obtain⟨_, rfl⟩:=hp;exact hob.elim))
 case move x=>cases hp;exact⟨_, rfl, hρ x⟩
 case assign x=>cases hp;exact⟨_, rfl, hρ x⟩
 case pick c a b =>
  unfold Je at hp
  split at hp
  ·rename_i t hc
   have hb:=ff (hc ▸ hρ c)
   cases t<;>cases hp
   ·exact⟨ρ' b, by simp only[Sem.run_bind, hb, asBool, Sem.run_pure, Result.andThen_ok];rfl, hρ b⟩
   ·exact⟨ρ' a, by simp only[Sem.run_bind, hb, asBool, Sem.run_pure, Result.andThen_ok];rfl, hρ a⟩
  ·cases hp;exact hob.elim
 case load t a =>
  obtain⟨u, h1, h2⟩:=sH hH (hρ a) hp hob
  exact⟨u, hv _ _ h1, h2⟩
 case nilCheck x =>
  have hx:=hρ x
  dsimp only
  unfold Lz at hp
  split at hp
  ·rename_i hq
   cases hp
   rw[hq]at hx
   obtain⟨b, hb, e⟩:=nj hx
   rw[e]at hx ⊢
   exact⟨_, rfl, hx⟩
  ·rename_i hq
   cases hp
   rw[hq]at hx
   obtain⟨b, o', e, _⟩:=t9 hx
   rw[e]at hx ⊢
   exact⟨_, rfl, hx⟩
  ·rename_i f a b hq
   cases hp
   rw[hq]at hx
   generalize ρ' x=u at *
   cases hx with
   | fn _ _ _ us vs h1 h2 h3 h4=>exact⟨_, rfl, .fn _ _ _ us vs h1 h2 h3 h4⟩
  ·rename_i id hq
   cases hp
   rw[hq]at hx
   generalize ρ' x=u at *
   cases hx with
   | yld _ l h1=>exact⟨_, rfl, .yld _ l h1⟩
  ·cases hp;exact hob.elim
 case binOp op t x y yt =>
  obtain⟨u, h1, h2⟩:=AB x y (hρ x) (hρ y) hp hob
  exact⟨u, hv _ _ h1, h2⟩
 case unOp op t x =>
  obtain⟨u, h1, h2⟩:=DJ (P:=P) (hρ x) hp hob
  exact⟨u, hv _ _ h1, h2⟩
 case convert src dst x =>
  obtain⟨u, h1, h2⟩:=yV (hρ x) hp hob
  exact⟨u, hv _ _ h1, h2⟩
 case makeFunc fn first cap =>
  cases hp
  refine⟨_, hv _ _ rfl, .fn _ _ _ _ _ (by simp) (fun j y u hy hu=>?_) (by simp) (fun j y u hy hu=>?_)⟩
  ·simp only[List.getElem?_map, Array.getElem?_toList, Array.getElem?_map]at hy hu
   cases hj:first[j]? with
   | none=>rw[hj]at hy;cases hy
   | some x=>rw[hj]at hy hu;simp at hy hu;subst hy hu;exact hρ x
  ·simp only[List.getElem?_map, Array.getElem?_toList, Array.getElem?_map]at hy hu
   cases hj:cap[j]? with
   | none=>rw[hj]at hy;cases hy
   | some x=>rw[hj]at hy hu;simp at hy hu;subst hy hu;exact hρ x
 case slice t x lo hi mx =>
  obtain⟨u, h1, h2⟩:=xn (hρ x) (hO lo) (hO hi) (hO mx) hp hob
  exact⟨u, hv _ _ h1, h2⟩
 case fieldAddr s x f =>
  obtain⟨u, h1, h2⟩:=rK (hρ x) hp hob
  exact⟨u, hv _ _ h1, h2⟩
 case field t x f =>
  obtain⟨u, h1, h2⟩:=xk (hρ x) hp hob
  exact⟨u, hv _ _ h1, h2⟩
 case indexAddr t x i =>
  obtain⟨u, h1, h2⟩:=rM hH (hρ x) (hρ i) hp hob
  exact⟨u, hv _ _ h1, h2⟩
 case index t x i =>
  obtain⟨u, h1, h2⟩:=xl (hρ x) (hρ i) hp hob
  exact⟨u, hv _ _ h1, h2⟩
 case lookup t x ix c =>
  obtain⟨u, h1, h2⟩:=vD hH (hρ x) (hρ ix) hp hob
  exact⟨u, hv _ _ h1, h2⟩
 case extract x i =>
  have hx:=hρ x
  unfold yW at hp
  split at hp
  ·rename_i cs hq
   split at hp
   ·rename_i hi
    cases hp
    rw[hq]at hx
    obtain⟨us, e, h1, h2⟩:=tq hx
    rw[Nat.blt_eq]at hi
    have hu:us[i]?=some us[i]:=Array.getElem?_eq_getElem (by omega)
    refine⟨us[i], hv _ _ (by rw[e];simp only[Instr.extract, hu];rfl), ?_⟩
    rw[d9 _ _ hi]
    exact h2 i _ _ (List.getElem?_eq_getElem hi) hu
   ·cases hp;exact hob.elim
  ·cases hp;exact hob.elim
 case build t parts =>
  obtain⟨u, h1, h2⟩:=xr (P:=P) hH (uparts:=parts.toList.map fun p=>(p.1, ρ' p.2)) (by simp) (fun j x u hx hu=>by
   simp only[List.getElem?_map, Array.getElem?_toList]at hx hu
   cases hj:parts[j]? with
   | none=>rw[hj]at hx;cases hx
   | some q=>rw[hj]at hx hu;simp at hx hu;subst hx hu;exact hρ q.2) hp hob
  refine⟨u, hv _ _ ?_, h2⟩
  rw[← h1]
  congr 2
  exact(Array.ext' (by simp))
 case call c =>
  obtain⟨callee, args, ats⟩:=c
  simp only at hp
  split at hp
  ·rename_i hcal
   split at hp
   ·rename_i x t ha ht
    obtain⟨u, h1, h2⟩:=AC (P:=P) (ty:=o.type) hH (hρ x) hp hob
    refine⟨u, ?_, h2⟩
    have ea:args=#[x]:=Array.ext' (by simpa using ha)
    have et:ats=#[t]:=Array.ext' (by simpa using ht)
    subst ea et
    simp only[resolve, invoke, builtin, List.map_toArray, List.map_cons, List.map_nil, Sem.run_bind, Sem.run_pure, Result.andThen_ok, h1]
   ·cases hp;exact hob.elim
  ·split at hp
   ·rename_i x y ha
    have ea:args=#[x, y]:=Array.ext' (by simpa using ha)
    subst ea
    unfold MX at hp
    split at hp
    ·rename_i k a k' b hq1 hq2
     cases hp
     have e1:=bM (hq1 ▸ hρ x)
     have e2:=bM (hq2 ▸ hρ y)
     refine⟨.int k (ta a b), ?_, .v _ _ (.int _ _)⟩
     simp only[resolve, invoke, builtin, List.map_toArray, List.map_cons, List.map_nil, Sem.run_bind, Sem.run_pure, Result.andThen_ok, e1, e2, Builtin.min_, List.foldlM_cons, List.foldlM_nil, Builtin.min2]
     rfl
    ·cases hp;exact hob.elim
   ·cases hp;exact hob.elim
  ·split at hp
   ·rename_i x y ha
    have ea:args=#[x, y]:=Array.ext' (by simpa using ha)
    subst ea
    unfold MX at hp
    split at hp
    ·rename_i k a k' b hq1 hq2
     cases hp
     have e1:=bM (hq1 ▸ hρ x)
     have e2:=bM (hq2 ▸ hρ y)
     refine⟨.int k (JP a b), ?_, .v _ _ (.int _ _)⟩
     simp only[resolve, invoke, builtin, List.map_toArray, List.map_cons, List.map_nil, Sem.run_bind, Sem.run_pure, Result.andThen_ok, e1, e2, Builtin.max_, List.foldlM_cons, List.foldlM_nil, Builtin.max2]
     rfl
    ·cases hp;exact hob.elim
   ·cases hp;exact hob.elim
  ·cases hp;exact hob.elim
end
end Go.Proofs.YtckgpflobhpnpaaGreat
namespace Go.Proofs.YtckgpflobhpnpaaGreat
open Go.RowKit
set_option linter.unusedVariables false
set_option linter.unusedSimpArgs false
def o7:List (Nat×D)→Nat→D
 | [], _=>.junk
 | (s, d)::r, t=>if Nat.beq s t then d else o7 r t
def sK:List (Nat×D)→Nat→List (Nat×D)
 | [], _=>[]
 | (s, d)::r, t=>if Nat.beq s t then sK r t else (s, d)::sK r t
def xt (env:List (Nat×D)) (t:Nat) (d:D):List (Nat×D):=(t, d)::sK env t
def eB (env:List (Nat×D)):Operand→D
 | .tmp t=>o7 env t
 | .const v=>D.ofVal v
 | .func f=>.fn (.func f) [] []
 | .global _=>.junk
theorem rO:∀{env:List (Nat×D)} {t:Nat}, o7 env t=.junk∨(t, o7 env t)∈env
 | [], t=>.inl rfl
 | (s, d)::r, t=>by
  unfold o7
  cases h:Nat.beq s t
  ·simp only[Bool.false_eq_true, if_false]
   rcases rO (env:=r) (t:=t)with h | h
   ·exact .inl h
   ·exact .inr (List.mem_cons_of_mem _ h)
  ·simp only[if_true]
   rw[Nat.beq_eq]at h
   subst h
   exact .inr (List.mem_cons_self ..)
theorem fY:∀{env:List (Nat×D)} {t s:Nat} {d:D}, (s, d)∈sK env t→(s, d)∈env∧s≠t
 | [], t, s, d, h=>by cases h
 | (s', d')::r, t, s, d, h=>by
  unfold sK at h
  cases hb:Nat.beq s' t
  ·simp only[hb, Bool.false_eq_true, if_false]at h
   rcases List.mem_cons.1 h with h | h
   ·cases h
    refine⟨List.mem_cons_self .., fun e=>?_⟩
    subst e
    rw[Nat.beq_refl]at hb
    cases hb
   ·exact⟨List.mem_cons_of_mem _ (fY h).1, (fY h).2⟩
  ·simp only[hb, if_true]at h
   exact⟨List.mem_cons_of_mem _ (fY h).1, (fY h).2⟩
def aV (μ:Nat→Value) (id:Nat) (u:Value):Nat→Value:=fun i=>if i=id then u else μ i
theorem av (μ:Nat→Value) (id:Nat) (u:Value):aV μ id u id=u:=if_pos rfl
theorem aF (μ:Nat→Value) {id i:Nat} (u:Value) (h:i≠id):aV μ id u i=μ i:=if_neg h
theorem B6 {a b:Nat} (h:a≠b):(!(Nat.beq a b))=true:=by
 cases hb:Nat.beq a b
 ·rfl
 ·exact absurd (by rwa [Nat.beq_eq]at hb) h
def bx (id:Nat):List aq→Bool
 | []=>true
 | B::r=>aq.free id B&&bx id r
theorem b7 {id:Nat}:∀{H:List aq} {i:Nat} {B:aq}, bx id H=true→H[i]?=some B→aq.free id B=true
 | B'::r, 0, B, h, hm=>by
  simp only[bx, Bool.and_eq_true]at h
  simp at hm
  subst hm
  exact h.1
 | B'::r, i+1, B, h, hm=>by
  simp only[bx, Bool.and_eq_true]at h
  exact b7 h.2 (by simpa using hm)
def killD (id:Nat) (d:D):D:=if D.free id d then d else .junk
def l6 (id:Nat):List (Nat×D)→List (Nat×D)
 | []=>[]
 | (t, d)::r=>(t, killD id d)::l6 id r
def o8 (id:Nat):List D→List D
 | []=>[]
 | d::r=>killD id d::o8 id r
def aq.kill (id:Nat):aq→aq
 | .dead=>.dead
 | .var T cs=>.var T (o8 id cs)
 | .arr E sz enc d l=>.arr E sz enc d l
 | .loop l tm nt env ps assign body state pending=>.loop l tm nt (l6 id env) ps assign body state pending
 | .frame tm env=>.frame tm (l6 id env)
 | .ro E sz enc d l=>.ro E sz enc d l
 | .mpb t ag enc d l=>.mpb t ag enc d l
 | .arrD E sz n gs cell=>if gs.all (fun g=>!(Nat.beq g id))then .arrD E sz n gs cell else .arrD E sz n (gs.filter (fun g=>!(Nat.beq g id))) (fun i j=>killD id (cell i j))
 | .grp n f=>.grp n f
 | .nest E sz n ce m f=>.nest E sz n ce m f
def bX (id:Nat):List aq→List aq
 | []=>[]
 | B::r=>B.kill id::bX id r
theorem kz (id:Nat) (d:D):D.free id (killD id d)=true:=by
 unfold killD
 cases h:D.free id d
 ·rfl
 ·simpa using h
theorem pF (id:Nat):∀env, bN id (l6 id env)=true
 | []=>rfl
 | (t, d)::r=>by simp[l6, bN, kz, pF id r]
theorem uj (id:Nat):∀cs, D.freeL id (o8 id cs)=true
 | []=>rfl
 | d::r=>by simp[o8, D.freeL, kz, uj id r]
theorem pG (id:Nat):∀H, bx id (bX id H)=true
 | []=>rfl
 | B::r=>by
  simp only[bX, bx, pG id r, Bool.and_true]
  cases B<;>first | (simp[aq.kill, aq.free, uj, pF];done) | skip
  rename_i E sz n gs cell
  simp only[aq.kill]
  split
  ·rename_i h;exact h
  ·simp[aq.free]
theorem fZ {id:Nat}:∀{env:List (Nat×D)} {t:Nat} {d:D}, (t, d)∈l6 id env→∃e, (t, e)∈env∧d=killD id e
 | (s, e)::r, t, d, h=>by
  rcases List.mem_cons.1 h with h | h
  ·cases h;exact⟨e, List.mem_cons_self .., rfl⟩
  ·obtain⟨e', h1, h2⟩:=fZ h
   exact⟨e', List.mem_cons_of_mem _ h1, h2⟩
theorem v4 (id:Nat):∀(cs:List D) (j:Nat), (o8 id cs)[j]?=(cs[j]?).map (killD id)
 | [], j=>by simp[o8]
 | d::r, 0=>by simp[o8]
 | d::r, j+1=>by simp[o8, v4 id r j]
theorem qk (id:Nat):∀cs, (o8 id cs).length=cs.length
 | []=>rfl
 | d::r=>by simp[o8, qk id r]
theorem eX (id:Nat):∀(H:List aq) (j:Nat), (bX id H)[j]?=(H[j]?).map (aq.kill id)
 | [], j=>by simp[bX]
 | d::r, 0=>by simp[bX]
 | d::r, j+1=>by simp[bX, eX id r j]
theorem bR (id:Nat):∀H, (bX id H).length=H.length
 | []=>rfl
 | d::r=>by simp[bX, bR id r]
theorem ed (id:Nat) (B:aq):(B.kill id).live=B.live:=by cases B<;>first | rfl | (simp only[aq.kill];split<;>rfl)
theorem nk (id:Nat) (B:aq):(B.kill id).isRo=B.isRo:=by cases B<;>first | rfl | (simp only[aq.kill];split<;>rfl)
def St.kill (id:Nat) (st:St):St:=⟨l6 id st.env, bX id st.heap⟩
def bG (H:List aq) (id:Nat) (B:aq):List aq:=if Nat.beq id H.length then H++[B]else H.set id B
theorem f5 {H:List aq} {id:Nat} {B:aq} (hid:id≤H.length) (i:Nat):(bG H id B)[i]?=if i=id then some B else H[i]?:=by
 unfold bG
 cases h:Nat.beq id H.length
 ·have hne:id≠H.length:=fun e=>by rw[e, Nat.beq_refl]at h;cases h
  simp only[Bool.false_eq_true, if_false]
  by_cases hi:i=id
  ·subst hi
   rw[if_pos rfl, List.getElem?_set_self (by omega)]
  ·rw[if_neg hi, List.getElem?_set_ne (fun e=>hi e.symm)]
 ·simp only[if_true]
  rw[Nat.beq_eq]at h
  subst h
  by_cases hi:i=H.length
  ·subst hi
   simp
  ·rw[if_neg hi]
   by_cases hl:i<H.length
   ·rw[List.getElem?_append_left hl]
   ·rw[List.getElem?_eq_none (by simp;omega), List.getElem?_eq_none (by omega)]
section
variable {C:lC} {S:Nat→Prop} {μ:Nat→Value} {st:St} {a:Act} {w w':World}
theorem aX.eval (h:aX C S μ st a w) (x:Operand):ak S μ w (eB st.env x) (a.eval x):=by
 cases x with
 | tmp t =>
  rcases rO (env:=st.env) (t:=t)with h1 | h1
  ·simp only[eB]
   rw[h1]
   exact .junk _
  ·exact(h.env _ _ h1).2
 | const v=>exact ak.ofVal S μ w v
 | func f=>exact .fn _ _ _ #[] #[] rfl (fun j y u hy _=>by simp at hy) rfl (fun j y u hy _=>by simp at hy)
 | global g=>exact .junk _
theorem aX.put (h:aX C S μ st a w) {t:Nat} {d:D} {u:Value} (ht:t<C.nt) (hd:ak S μ w d u):aX C S μ ⟨xt st.env t d, st.heap⟩ (a.put (some t) u) w:=by
 refine⟨h.os, h.tape, h.output, h.size, h.old, h.mono, h.new, h.slt, ?_, h.heap, h.may, h.defers, by simp[Act.put, h.tsize], h.ro⟩
 intro s e hm
 rcases List.mem_cons.1 hm with hm | hm
 ·cases hm
  refine⟨ht, ?_⟩
  have:(a.put (some t) u).tmps.getD t undef=u:=by
   have hts:t<a.tmps.size:=by rw[h.tsize];exact ht
   simp[Act.put, hts]
  rw[this]
  exact hd
 ·obtain⟨h1, h2⟩:=fY hm
  obtain⟨q1, q2⟩:=h.env s e h1
  refine⟨q1, ?_⟩
  have:(a.put (some t) u).tmps.getD s undef=a.tmps.getD s undef:=by
   simp only[Act.put, Array.getD_eq_getD_getElem?]
   rw[Array.getElem?_setIfInBounds_ne (fun e=>h2 e.symm)]
  rw[this]
  exact q2
theorem aX.weak (h:aX C S μ st a w) {env:List (Nat×D)} (he:∀t d, (t, d)∈env→d=.junk∧(∃e, (t, e)∈st.env)∨(t, d)∈st.env):aX C S μ ⟨env, st.heap⟩ a w :=
 ⟨h.os, h.tape, h.output, h.size, h.old, h.mono, h.new, h.slt, fun t d hm=>by
  rcases he t d hm with ⟨rfl, e, h1⟩ | h1
  ·exact⟨(h.env t e h1).1, .junk _⟩
  ·exact h.env t d h1, h.heap, h.may, h.defers, h.tsize, h.ro⟩
theorem ak.killD {d:D} {u:Value} {id:Nat} (h:ak S μ w d u):ak S μ w (killD id d) u:=by
 unfold Proofs.YtckgpflobhpnpaaGreat.killD
 split
 ·exact h
 ·exact .junk _
theorem aJ.kill {u:Value} {B:aq} {id:Nat} (h:aJ S μ w u B):aJ S μ w u (B.kill id):=by
 cases B with
 | dead=>trivial
 | arr E sz enc d l=>exact h
 | ro E sz enc d l=>exact h
 | mpb t ag enc d l=>exact h
 | grp n f=>exact h
 | nest E sz n ce m f=>exact h
 | arrD E sz n gs cell =>
  simp only[aq.kill]
  split
  ·exact h
  ·obtain⟨h0, xs, h1, h3⟩:=h
   refine⟨fun i j k hi hj hk=>?_, xs, h1, fun i j hi hj=>?_⟩
   ·show D.free k (if D.free id (cell i j)=true then cell i j else .junk)=true
    split
    ·rename_i hf
     by_cases e:k=id
     ·subst e;exact hf
     ·refine h0 i j k hi hj (List.all_eq_true.2 fun g hg=>?_)
      by_cases e':g=id
      ·subst e'
       exact B6 (fun h=>e h.symm)
      ·exact List.all_eq_true.1 hk g (List.mem_filter.2 ⟨hg, B6 e'⟩)
    ·rfl
   ·obtain⟨z, hz, ho, hr⟩:=h3 i j hi hj
    exact⟨z, hz, ho, hr.killD⟩
 | var T cs =>
  obtain⟨b, vs, rfl, h1, h2, h3⟩:=h
  refine⟨b, vs, rfl, h1, by rw[qk];exact h2, fun j y x hy hx=>?_⟩
  rw[v4]at hy
  cases hc:cs[j]? with
  | none=>rw[hc]at hy;cases hy
  | some e =>
   rw[hc]at hy
   simp only[Option.map_some, Option.some.injEq]at hy
   subst hy
   unfold killD
   split
   ·exact h3 j e x hc hx
   ·exact .junk _
 | loop l tm nt env ps assign body state pending =>
  obtain⟨r, rfl, h1, h2, h3, h4, h5, h6, h7, h7', h8⟩:=h
  refine⟨r, rfl, h1, h2, h3, h4, h5, h6, h7, h7', fun t d hm=>?_⟩
  obtain⟨e, q1, rfl⟩:=fZ hm
  obtain⟨q2, q3⟩:=h8 t e q1
  refine⟨q2, ?_⟩
  exact q3.killD
 | frame tm env =>
  obtain⟨rfl, h8⟩:=h
  refine⟨rfl, fun t d hm=>?_⟩
  obtain⟨e, q1, rfl⟩:=fZ hm
  obtain⟨q2, q3⟩:=h8 t e q1
  refine⟨q2, ?_⟩
  exact q3.killD
theorem aX.kill (h:aX C S μ st a w) (id:Nat):aX C S μ (st.kill id) a w:=by
 have hg:∀(i:Nat) (A:aq), (bX id st.heap)[i]?=some A→∃B, st.heap[i]?=some B∧A=B.kill id:=by
  intro i A hA
  rw[eX]at hA
  cases hc:st.heap[i]? with
  | none=>rw[hc]at hA;cases hA
  | some B=>rw[hc]at hA;simp at hA;exact⟨B, rfl, hA.symm⟩
 refine⟨h.os, h.tape, h.output, h.size, h.old, h.mono, h.new, h.slt, ?_, ⟨?_, ?_, ?_⟩, ?_, ?_, h.tsize, ?_⟩
 ·intro t d hm
  obtain⟨e, h1, rfl⟩:=fZ hm
  obtain⟨q1, q2⟩:=h.env t e h1
  refine⟨q1, ?_⟩
  unfold killD
  split
  ·exact q2
  ·exact .junk _
 ·intro i A hA
  obtain⟨B, hB, rfl⟩:=hg i A hA
  exact(h.heap.box i B hB).kill
 ·intro i j A B b hA hB la lb
  obtain⟨A', hA', rfl⟩:=hg i A hA
  obtain⟨B', hB', rfl⟩:=hg j B hB
  rw[ed]at la lb
  exact h.heap.apart i j A' B' b hA' hB' la lb
 ·intro i A b hA la
  obtain⟨A', hA', rfl⟩:=hg i A hA
  rw[ed]at la
  exact h.heap.notS i A' b hA' la
 ·intro i A b hA la
  obtain⟨A', hA', rfl⟩:=hg i A hA
  rw[ed]at la
  exact h.may i A' b hA' la
 ·obtain⟨mk, d1, d2, d3⟩:=h.defers
  refine⟨mk, d1, d2, fun b hb=>?_⟩
  obtain⟨q1, q2, q3, q4⟩:=d3 b hb
  refine⟨q1, q2, q3, fun i A hA hl=>?_⟩
  obtain⟨A', hA', rfl⟩:=hg i A hA
  rw[ed]at hl
  exact q4 i A' hA' hl
 ·intro i A b hA la
  obtain⟨A', hA', rfl⟩:=hg i A hA
  rw[nk]at la
  exact h.ro i A' b hA' la
theorem aX.upd0 {id:Nat} {B:aq} {row:Option Nat} {u:Value} (h:aX C S μ st a w) (hg:w.grownBy w' row) (hrow:∀k, row=some k→∃A, st.heap[id]?=some A∧A.live=true∧bE (μ id) k)
  (hid:id≤st.heap.length) (hbox:aJ S (aV μ id u) w' u B) (hblk:∀b, bE u b→row=some b∨w.heap.size≤b)
  (hfree:μ id=u∨(bN id st.env=true∧bx id st.heap=true)) (hro:B.isRo=false:=by rfl):aX C S (aV μ id u) ⟨st.env, bG st.heap id B⟩ a w':=by
 have hSrow:∀k, row=some k→¬S k:=fun k hk=>by
  obtain⟨A, h1, h2, h3⟩:=hrow k hk
  exact h.heap.notS id A k h1 h2 h3
 have hS:∀b, S b→w'.heap[b]?=w.heap[b]?:=fun b hb=>hg.block b (h.slt b hb) (fun e=>hSrow b e.symm hb)
 have hμd:∀d:D, (μ id=u∨D.free id d=true)→∀i, d.free i=false→aV μ id u i=μ i:=by
  intro d hd i hi
  by_cases e:i=id
  ·subst e
   rcases hd with hd | hd
   ·rw[av];exact hd.symm
   ·rw[hd]at hi;cases hi
  ·exact aF _ _ e
 have hBother:∀(i:Nat) (A:aq), i≠id→st.heap[i]?=some A→A.live=true→∀b, bE (μ i) b→w'.heap[b]?=w.heap[b]?:=by
  intro i A hi hA hl b hb
  refine hg.block b ((h.heap.box i A hA).lt hl b hb) (fun e=>?_)
  obtain⟨A', h1, h2, h3⟩:=hrow b e.symm
  exact hi (h.heap.apart i id A A' b hA h1 hl h2 hb h3)
 refine⟨hg.os.trans h.os, hg.tape.trans h.tape, hg.output.trans h.output, Nat.le_trans h.size hg.size, ?_, h.mono, h.new, fun b hb=>Nat.lt_of_lt_of_le (h.slt b hb) hg.size, ?_, ⟨?_, ?_, ?_⟩, ?_, ?_, h.tsize, ?_⟩
 ·intro k hk
  rw[hg.block k (Nat.lt_of_lt_of_le hk h.size) (fun e=>?_)]
  ·exact h.old k hk
  ·obtain⟨A', h1, h2, h3⟩:=hrow k e.symm
   have h4:=h.may id A' k h1 h2 h3
   omega
 ·intro t d hm
  obtain⟨q1, q2⟩:=h.env t d hm
  exact⟨q1, q2.stable (fun _ h _=>h) (fun b hb _=>hS b hb) hg.size (hμd d (hfree.imp (fun h=>h) fun hf=>b5 hf.1 hm))⟩
 ·intro i A hA
  rw[f5 hid]at hA
  by_cases hi:i=id
  ·rw[if_pos hi]at hA
   cases hA
   subst hi
   rw[av]
   exact hbox
  ·rw[if_neg hi]at hA
   rw[aF _ _ hi]
   have key:(∀b, bE (μ i) b→w'.heap[b]?=w.heap[b]?)→aJ S (aV μ id u) w' (μ i) A:=fun hbo=>by
    refine(h.heap.box i A hA).stable (fun _ h _=>h) (fun b hb _=>hS b hb) hg.size (fun j hj=>?_) hbo
    by_cases e:j=id
    ·subst e
     rcases hfree with hf | hf
     ·rw[av];exact hf.symm
     ·rw[b7 hf.2 hA]at hj;cases hj
    ·exact aF _ _ e
   rcases A.three with rfl | hl | hl
   ·trivial
   ·exact key (hBother i A hi hA hl)
   ·refine key (fun b hb=>hg.block b ((h.heap.box i A hA).ltR hl b hb) (fun e=>?_))
    obtain⟨A', h1, h2, h3⟩:=hrow b e.symm
    have h4:=h.may id A' b h1 h2 h3
    have h5:=h.ro i A b hA hl hb
    omega
 ·intro i j A A' b hA hA' la la' hb hb'
  rw[f5 hid]at hA hA'
  have key:∀(i j:Nat) (A:aq), i≠id→st.heap[i]?=some A→A.live=true→bE (μ i) b→bE u b→False:=by
   intro i j A hi hA la hb hu
   have hlt:=(h.heap.box i A hA).lt la b hb
   rcases hblk b hu with hr | hr
   ·obtain⟨A', h1, h2, h3⟩:=hrow b hr
    exact hi (h.heap.apart i id A A' b hA h1 la h2 hb h3)
   ·omega
  by_cases hi:i=id
  ·by_cases hj:j=id
   ·rw[hi, hj]
   ·rw[if_neg hj]at hA'
    rw[aF _ _ hj]at hb'
    rw[hi, av]at hb
    exact(key j i A' hj hA' la' hb' hb).elim
  ·rw[if_neg hi]at hA
   rw[aF _ _ hi]at hb
   by_cases hj:j=id
   ·rw[hj, av]at hb'
    exact(key i j A hi hA la hb hb').elim
   ·rw[if_neg hj]at hA'
    rw[aF _ _ hj]at hb'
    exact h.heap.apart i j A A' b hA hA' la la' hb hb'
 ·intro i A b hA la hb hSb
  rw[f5 hid]at hA
  by_cases hi:i=id
  ·rw[hi, av]at hb
   rcases hblk b hb with hr | hr
   ·exact hSrow b hr hSb
   ·have:=h.slt b hSb;omega
  ·rw[if_neg hi]at hA
   rw[aF _ _ hi]at hb
   exact h.heap.notS i A b hA la hb hSb
 ·intro i A b hA la hb
  rw[f5 hid]at hA
  by_cases hi:i=id
  ·rw[hi, av]at hb
   rcases hblk b hb with hr | hr
   ·obtain⟨A', h1, h2, h3⟩:=hrow b hr
    exact h.may id A' b h1 h2 h3
   ·exact Nat.le_trans h.size hr
  ·rw[if_neg hi]at hA
   rw[aF _ _ hi]at hb
   exact h.may i A b hA la hb
 ·obtain⟨mk, d1, d2, d3⟩:=h.defers
  refine⟨mk, d1, d2, fun b hb=>?_⟩
  obtain⟨q1, q2, q3, q4⟩:=d3 b hb
  have hlt:b<w.heap.size:=(Array.getElem?_eq_some_iff.1 q1).1
  have hnr:some b≠row:=fun e=>by
   obtain⟨A', r1, r2, r3⟩:=hrow b e.symm
   exact q4 id A' r1 r2 r3
  refine⟨by rw[hg.block b hlt hnr];exact q1, q2, q3, fun i A hA hl hbi=>?_⟩
  rw[f5 hid]at hA
  by_cases hi:i=id
  ·rw[hi, av]at hbi
   rcases hblk b hbi with hr | hr
   ·exact hnr hr.symm
   ·omega
  ·rw[if_neg hi]at hA
   rw[aF _ _ hi]at hbi
   exact q4 i A hA hl hbi
 ·intro i A b hA la hb
  rw[f5 hid]at hA
  by_cases hi:i=id
  ·rw[if_pos hi]at hA
   cases hA
   rw[hro]at la
   cases la
  ·rw[if_neg hi]at hA
   rw[aF _ _ hi]at hb
   exact h.ro i A b hA la hb
theorem aX.upd {id:Nat} {B:aq} {row:Option Nat} {u:Value} (h:aX C S μ st a w) (hg:w.grownBy w' row) (hrow:∀k, row=some k→∃A, st.heap[id]?=some A∧A.live=true∧bE (μ id) k)
  (hid:id≤st.heap.length) (hbox:aJ S (aV μ id u) w' u B) (hblk:∀b, bE u b→row=some b∨w.heap.size≤b)
  (hfree:(μ id=u∧(B.isArr=false∨∃A, st.heap[id]?=some A∧A.isArr=true))∨((∀A, st.heap[id]?=some A→A.isArr=true)∧bN id st.env=true∧bx id st.heap=true)) (hro:B.isRo=false:=by rfl):aX C S (aV μ id u) ⟨st.env, bG st.heap id B⟩ a w':=h.upd0 hg hrow hid hbox hblk (hfree.imp (fun hf=>hf.1) fun hf=>hf.2) hro
end
end Go.Proofs.YtckgpflobhpnpaaGreat
namespace Go.Proofs.YtckgpflobhpnpaaGreat
open Go.RowKit
set_option linter.unusedVariables false
set_option linter.unusedSimpArgs false
def HG:V→V→Prop
 | .int k a, .int k' b=>if k==k' then a=b else False
 | .bool a, .bool b=>a=b
 | .str a, .str b=>a=b
 | .nilf, .nilf=>True
 | .nsl, .nsl=>True
 | .nsl, .sl _ _ _ l=>l=[]
 | .esl, .esl=>True
 | .esl, .sl _ _ _ l=>l=[]
 | .sl sz enc _ l, .sl sz' enc' _ l'=>if Nat.beq sz sz' then l.map enc=l'.map enc' else False
 | .sm ag enc _ l, .sm ag' enc' _ l'=>if ag==ag' then l.map (fun p=>(p.1, enc p.2))=l'.map (fun p=>(p.1, enc' p.2))else False
 | .nmp, .nmp=>True
 | .nmp, .sm _ _ _ l=>l=[]
 | _, _=>False
def Jg:V→Prop
 | .nsl=>True
 | _=>False
def HH:D→D→Prop
 | .v x, .v y=>HG x y
 | .nils, .v (.sl _ _ _ l)=>l=[]
 | .nils, .v .nsl=>True
 | .v x, .nils=>Jg x
 | .iptr cs off, .iptr cs' off'=>if Nat.beq off off' then cs=cs' else False
 | _, .junk=>True
 | x, y=>x=y
def LA:List D→List D→Prop
 | [], []=>True
 | x::xs, y::ys=>HH x y∧LA xs ys
 | _, _=>False
def ql:D→D→Prop
 | .agg xs, .agg ys=>LA xs ys
 | .tup xs, .tup ys=>LA xs ys
 | x, y=>HH x y
def HI (H:List aq):D→D→Prop
 | .own id, .v y=>match H[id]? with
  | some (.arr _ sz enc d l)=>HG (.sl sz enc d l) y
  | _=>False
 | x, y=>HH x y
def LC (H:List aq):List D→List D→Prop
 | [], []=>True
 | x::xs, y::ys=>HI H x y∧LC H xs ys
 | _, _=>False
def Jh (H:List aq):D→D→Prop
 | .agg xs, .agg ys=>LC H xs ys
 | x, y=>HI H x y
def LD (H:List aq):List D→List D→Prop
 | [], []=>True
 | x::xs, y::ys=>Jh H x y∧LD H xs ys
 | _, _=>False
def AE (H:List aq):List D→Option (List V)
 | []=>some []
 | .v x::r=>match AE H r with | some xs=>some (x::xs) | none=>none
 | .nils::r=>match AE H r with | some xs=>some (.nsl::xs) | none=>none
 | .own id::r=>match H[id]? with
  | some (.arr _ sz enc d l)=>(match AE H r with | some xs=>some (.sl sz enc d l::xs) | none=>none)
  | _=>none
 | _=>none
def Lm (H:List aq):D→D→Prop
 | .ptr id i _ off, .iptr cs o=>match H[id]? with
  | some (.var _ bcs)=>(match Nat.beq i 0&&Nat.beq off o, AE H bcs with | true, some vs=>vs=cs | _, _=>False)
  | _=>False
 | x, y=>HI H x y
def LF (H:List aq):List D→List D→Prop
 | [], []=>True
 | x::xs, y::ys=>Lm H x y∧LF H xs ys
 | _, _=>False
def MY (H:List aq):D→D→Prop
 | .agg xs, .agg ys=>LC H xs ys
 | .fn f a b, .fn f' a' b'=>f=f'∧LF H a a'∧LF H b b'
 | x, y=>Lm H x y
def vA (H:List aq):List D→List D→Prop
 | [], []=>True
 | x::xs, y::ys=>MY H x y∧vA H xs ys
 | _, _=>False
def D.isOwn:D→Bool
 | .own _=>true
 | .ptr _ _ _ _=>true
 | _=>false
def fl:List D→Bool
 | []=>true
 | .own _::_=>false
 | .ptr _ _ _ _::_=>false
 | .agg cs::r=>cs.all (fun c=>!c.isOwn)&&fl r
 | .fn _ a b::r=>a.all (fun c=>!c.isOwn)&&(b.all (fun c=>!c.isOwn)&&fl r)
 | _::r=>fl r
def aq.mem:aq→Bool
 | .arr _ _ _ _ _=>true
 | .var _ _=>true
 | _=>false
theorem aq.mem_live {B:aq} (h:B.mem=true):B.live=true:=by cases B<;>first | rfl | cases h
theorem aq.arr_mem {B:aq} (h:B.isArr=true):B.mem=true:=by cases B<;>first | rfl | cases h
mutual
def er:D→Bool
 | .own _=>false
 | .ptr _ _ _ _=>false
 | .agg cs=>pH cs
 | .tup cs=>pH cs
 | .fn _ a b=>pH a&&pH b
 | .yld _=>false
 | .gr _ _=>false
 | _=>true
def pH:List D→Bool
 | []=>true
 | c::cs=>er c&&pH cs
end
mutual
theorem f6 (id:Nat):∀d:D, er d=true→D.free id d=true
 | .own _, h=>by simp[er]at h
 | .ptr _ _ _ _, h=>by simp[er]at h
 | .agg cs, h=>by simp only[er]at h;simp only[D.free];exact gB id cs h
 | .tup cs, h=>by simp only[er]at h;simp only[D.free];exact gB id cs h
 | .fn _ a b, h=>by
  simp only[er, Bool.and_eq_true]at h
  simp only[D.free, Bool.and_eq_true]
  exact⟨gB id a h.1, gB id b h.2⟩
 | .yld _, h=>by simp[er]at h
 | .gr _ _, h=>by simp[er]at h
 | .v _, _=>rfl
 | .nils, _=>rfl
 | .iptr _ _, _=>rfl
 | .capd _, _=>rfl
 | .junk, _=>rfl
theorem gB (id:Nat):∀cs:List D, pH cs=true→D.freeL id cs=true
 | [], _=>rfl
 | c::cs, h=>by
  simp only[pH, Bool.and_eq_true]at h
  simp only[D.freeL, Bool.and_eq_true]
  exact⟨f6 id c h.1, gB id cs h.2⟩
end
def ai (P:Program) (f:FuncId) (as:List D) (H:List aq) (al:Bool) (r:D) (H':List aq):Prop :=
 ∀(S:Nat→Prop) (μ:Nat→Value) (w:World) (us:Array Value), (∀b, S b→b<w.heap.size)→a9 S μ w H→aM S μ w as us →
  Calls P f us w (fun e w'=>∃(u:Value) (μ':Nat→Value) (S':Nat→Prop), e=.returned u∧w'.os=w.os∧w'.tape=w.tape∧w'.output=w.output∧w.heap.size≤w'.heap.size ∧
   (∀k, k<w.heap.size→(∀(i:Nat) (A:aq), H[i]?=some A→A.live=true→¬bE (μ i) k)→w'.heap[k]?=w.heap[k]?) ∧
   (∀b, S b→S' b)∧(∀b, S' b→S b∨w.heap.size≤b)∧(∀b, S' b→b<w'.heap.size) ∧
   ak (fun b=>S' b∧(al=true∨w.heap.size≤b)) μ' w' r u∧a9 S' μ' w' H' ∧
   (∀(i:Nat) (A:aq) (b:Nat), H'[i]?=some A→A.live=true→bE (μ' i) b→w.heap.size≤b∨∃(j:Nat) (A':aq), H[j]?=some A'∧A'.live=true∧bE (μ j) b) ∧
   (∀(i:Nat) (A:aq), H[i]?=some A→A.isArr=false→A.live=true→μ' i=μ i))
section
variable {P:Program} {S:Nat→Prop} {μ:Nat→Value} {w:World}
theorem xu {α β:Type _} {f:α→β} {l:List α} {i:Nat} {x:α} (h:l[i]?=some x):(l.map f)[i]?=some (f x):=by rw[List.getElem?_map, h];rfl
theorem dH {α β:Type _} {f:α→β} {l:List α} {i:Nat} {y:β} (h:(l.map f)[i]?=some y):∃x, l[i]?=some x∧f x=y:=by
 rw[List.getElem?_map]at h
 cases hx:l[i]? with
 | none=>rw[hx]at h;cases h
 | some x=>rw[hx]at h;simp at h;exact⟨x, rfl, h⟩
theorem DL {sz:Nat} {α β:Type} {enc:α→List V} {d:α} {l:List α} {enc':β→List V} {d':β} {l':List β} {u:Value} (h:de S w (.sl sz enc d l) u) (he:l.map enc=l'.map enc') :
  de S w (.sl sz enc' d' l') u:=by
 have hlen:l.length=l'.length:=by have:=congrArg List.length he;simpa using this
 obtain⟨p, c, rfl, h1, h2, h3, h4⟩:=fe h
 refine rL hlen (by omega) h2 h3 (fun h0=>?_)
 obtain⟨b, off, us, q1, q2, q3, q4, q5, q6⟩:=h4 (by omega)
 have back:∀(i:Nat) (x:β), l'[i]?=some x→∃y, l[i]?=some y∧enc y=enc' x:=fun i x hx=>dH (by rw[he];exact xu hx)
 refine⟨b, off, us, q1, q2, q3, fun i x hx=>?_, fun i x j y hx hy=>?_, fun i x j y hx hy=>?_⟩
 ·obtain⟨z, hz, e⟩:=back i x hx
  rw[← e];exact q4 i z hz
 ·obtain⟨z, hz, e⟩:=back i x hx
  exact q5 i z j y hz (by rw[e];exact hy)
 ·obtain⟨z, hz, e⟩:=back i x hx
  exact q6 i z j y hz (by rw[e];exact hy)
theorem DM {ag:Bool} {α β:Type} {enc:α→List V} {enc':β→List V} {d:α} {d':β} {l:List (ByteArray×α)} {l':List (ByteArray×β)} {u:Value} (h:de S w (.sm ag enc d l) u) (he:l.map (fun p=>(p.1, enc p.2))=l'.map (fun p=>(p.1, enc' p.2))):de S w (.sm ag enc' d' l') u:=by
 have hlen:l.length=l'.length:=by have:=congrArg List.length he;simpa using this
 have back:∀(i:Nat) (k:ByteArray) (y:β), l'[i]?=some (k, y)→∃x, l[i]?=some (k, x)∧enc x=enc' y:=fun i k y hy=>by
  have h1:(l'.map (fun p=>(p.1, enc' p.2)))[i]?=some (k, enc' y):=by rw[List.getElem?_map, hy];rfl
  rw[← he, List.getElem?_map]at h1
  cases hq:l[i]? with
  | none=>rw[hq]at h1;cases h1
  | some q =>
   rw[hq]at h1
   simp only[Option.map_some, Option.some.injEq, Prod.mk.injEq]at h1
   exact⟨q.2, by rw[← h1.1], h1.2⟩
 cases h with
 | smn =>
  have:l'=[]:=List.eq_nil_of_length_eq_zero (by rw[← hlen];rfl)
  subst this
  exact .smn _ _ _
 | sm _ _ _ _ b clock arr us h1 h2 h3 h4 h5 h6 =>
  refine .sm _ _ _ _ b clock arr us h1 h2 h3 (by rw[h4, hlen]) (fun i k y hy=>?_) (fun i k y j z hy hz=>?_)
  ·obtain⟨x, hx, e⟩:=back i k y hy
   rw[← e];exact h5 i k x hx
  ·obtain⟨x, hx, e⟩:=back i k y hy
   exact h6 i k x j z hx (by rw[e];exact hz)
theorem xv {x y:V} {u:Value} (he:HG x y) (h:de S w x u):de S w y u:=by
 unfold HG at he
 split at he
 ·split at he
  ·rename_i hk
   rw[beq_iff_eq]at hk
   subst he hk
   exact h
  ·exact he.elim
 ·subst he;exact h
 ·subst he;exact h
 ·exact h
 ·exact h
 ·subst he;cases h;exact .nil _ _ _ _ _ (by simp[maxLen]) (fun _=>rfl)
 ·exact h
 ·subst he;cases h with
  | esl p c hc=>exact .nil _ _ _ _ _ hc (fun h=>by cases h)
 ·split at he
  ·rename_i hs
   rw[Nat.beq_eq]at hs
   subst hs
   exact DL h he
  ·exact he.elim
 ·split at he
  ·rename_i hs
   rw[beq_iff_eq]at hs
   subst hs
   exact DM h he
  ·exact he.elim
 ·exact h
 ·subst he;cases h;exact .smn _ _ _
 ·exact he.elim
theorem ts {x y:D} {u:Value} (he:HH x y) (h:ak S μ w x u):ak S μ w y u:=by
 unfold HH at he
 split at he
 ·exact .v _ _ (xv he (bg h))
 ·subst he
  cases h
  exact .v _ _ (.nil _ _ _ _ _ (by simp[maxLen]) (fun _=>rfl))
 ·cases h
  exact .v _ _ .nsl
 ·have h:=bg h
  unfold Jg at he
  split at he
  ·cases h;exact .nils
  ·exact he.elim
 ·split at he
  ·rename_i hs
   rw[Nat.beq_eq]at hs
   subst he hs
   exact h
  ·exact he.elim
 ·exact .junk _
 ·subst he;exact h
theorem B7:∀{xs ys:List D} {us:Array Value}, LA xs ys→aM S μ w xs us→aM S μ w ys us
 | xs, ys, us, he, h=>by
  have key:∀(xs ys:List D), LA xs ys→xs.length=ys.length∧∀(j:Nat) (y:D), ys[j]?=some y→∃x, xs[j]?=some x∧HH x y:=by
   intro xs
   induction xs with
   | nil =>
    intro ys h
    cases ys with
    | nil=>exact⟨rfl, fun j y hy=>by simp at hy⟩
    | cons _ _=>exact h.elim
   | cons x xs ih =>
    intro ys h
    cases ys with
    | nil=>exact h.elim
    | cons y ys =>
     obtain⟨h1, h2⟩:=ih ys h.2
     refine⟨by simp[h1], fun j z hz=>?_⟩
     cases j with
     | zero=>simp at hz;subst hz;exact⟨x, rfl, h.1⟩
     | succ j=>simpa using h2 j z (by simpa using hz)
  obtain⟨h1, h2⟩:=key xs ys he
  exact⟨by rw[← h1];exact h.1, fun j y u hy hu=>by
   obtain⟨x, hx, hxy⟩:=h2 j y hy
   exact ts hxy (h.2 j x u hx hu)⟩
theorem qn {x y:D} {u:Value} (he:ql x y) (h:ak S μ w x u):ak S μ w y u:=by
 unfold ql at he
 split at he
 ·obtain⟨us, rfl, h1, h2⟩:=ec h
  obtain⟨q1, q2⟩:=B7 he ⟨h1, h2⟩
  exact .agg _ _ q1 q2
 ·obtain⟨us, rfl, h1, h2⟩:=tq h
  obtain⟨q1, q2⟩:=B7 he ⟨h1, h2⟩
  exact .tup _ _ q1 q2
 ·exact ts he h
theorem HJ {S':Nat→Prop} {t:TypeId} {ag:Bool} {α:Type} {enc:α→List V} {d:α} {l:List (ByteArray×α)} {u:Value} (h:aJ S μ w u (.mpb t ag enc d l)) (hS:∀b, S b→S' b) (hown:∀b, bE u b→S' b):de S' w (.sm ag enc d l) u:=by
 obtain⟨b, arr, clock, rfl, hb, hl, hh⟩:=h
 have st:∀{y:V} {z:Value}, de S w y z→de S' w y z:=fun h=>h.stable (fun b hb _=>hS b hb) (fun _ _ _=>rfl) (Nat.le_refl _)
 refine .sm ag enc d l b clock arr (fun i j=>if ag=true then (match (arr.getD i default).val with | .agg a=>a.getD j undef | _=>undef)else (arr.getD i default).val) (hown b (.inl rfl)) (Array.getElem?_eq_some_iff.1 hb).1 hb hl (fun i k x hx=>?_) (fun i k x j y hx hy=>?_)
 ·obtain⟨e, e1, e2, e3, e4⟩:=hh i k x hx
  refine⟨e, e1, e2, ?_⟩
  have hg:arr.getD i default=e:=by simp[Array.getD_eq_getD_getElem?, e1]
  unfold BZ
  cases ag
  ·simp only[Bool.false_eq_true, if_false]
   exact⟨e3 rfl, by rw[hg]⟩
  ·simp only[if_true]
   obtain⟨a, ha, h1, h2⟩:=ec (show ak S μ w (.agg ((enc x).map D.v)) e.val from e4)
   rw[List.length_map]at h1
   refine⟨a, ha, h1, fun j hj=>?_⟩
   rw[hg, ha]
   simp[Array.getD_eq_getD_getElem?, Array.getElem?_eq_getElem (show j<a.size by omega)]
 ·obtain⟨e, e1, e2, e3, e4⟩:=hh i k x hx
  have hg:arr.getD i default=e:=by simp[Array.getD_eq_getD_getElem?, e1]
  cases ag
  ·simp only[Bool.false_eq_true, if_false]
   rw[hg]
   have hl1:=e3 rfl
   have hj:j=0:=by have:=(List.getElem?_eq_some_iff.1 hy).1;omega
   subst hj
   match hq:enc x, hl1, hy with
   | [y'], _, hy =>
    cases hy
    have e4:ak S μ w (kx false (enc x)) e.val:=e4
    rw[hq]at e4
    exact st (bg e4)
  ·simp only[if_true]
   obtain⟨a, ha, h1, h2⟩:=ec (show ak S μ w (.agg ((enc x).map D.v)) e.val from e4)
   rw[List.length_map]at h1
   have hj:=(List.getElem?_eq_some_iff.1 hy).1
   rw[hg, ha]
   have hu:a[j]?=some (a.getD j undef):=by simp[Array.getD_eq_getD_getElem?, Array.getElem?_eq_getElem (show j<a.size by omega)]
   exact st (bg (h2 j (.v y) _ (by rw[List.getElem?_map, hy];rfl) hu))
theorem eI {S':Nat→Prop} {E sz:Nat} {α:Type} {enc:α→List V} {d:α} {l:List α} {u:Value} (h:aJ S μ w u (.arr E sz enc d l)) (hS:∀b, S b→S' b) (hown:∀b, bE u b→S' b)
  (hslt:∀b, S b→b<w.heap.size):de S' w (.sl sz enc d l) u:=by
 have hlt:=h.lt rfl
 obtain⟨p, c, hu, q1, q2, q3, q4⟩:=b6 h
 subst hu
 refine rL rfl q1 q2 q3 (fun h0=>?_)
 obtain⟨g, rfl⟩:=q4 h0
 obtain⟨r1, xs, r2, r3⟩:=h
 refine⟨g, 0, fun i j=>xs.getD (i*sz+j) undef, rfl, hown g (.inl rfl), hlt g (.inl rfl), r1, fun i x j y hx hy=>?_, fun i x j y hx hy=>?_⟩
 ·obtain⟨z, hz, _⟩:=r3 i x j y hx hy
  rw[Nat.zero_add, ni r2 (b:=g) rfl _ _ hz]
  simp[List.getD, hz]
 ·obtain⟨z, hz, hr⟩:=r3 i x j y hx hy
  have:xs.getD (i*sz+j) undef=z:=by simp[List.getD, hz]
  show de S' w y (xs.getD (i*sz+j) undef)
  rw[this]
  exact hr.stable (fun b hb _=>hS b hb) (fun _ _ _=>rfl) (Nat.le_refl _)
theorem qo {H:List aq} {S':Nat→Prop} (hH:a9 S μ w H) (hS:∀b, S b→S' b) (hslt:∀b, S b→b<w.heap.size) {x y:D} (hown:(∀(i:Nat) (A:aq) (b:Nat), H[i]?=some A→A.isArr=true→bE (μ i) b→S' b)∨x.isOwn=false) {u:Value} (he:HI H x y) (h:ak S μ w x u):ak S' μ w y u:=by
 unfold HI at he
 split at he
 ·rename_i id y
  split at he
  ·rename_i E sz α enc d l hb
   have hu:=bQ h
   subst hu
   have ho:∀b, bE (μ id) b→S' b:=fun b hb'=>by
    rcases hown with hown | hown
    ·exact hown id _ b hb rfl hb'
    ·cases hown
   exact .v _ _ (xv he (eI (hH.box id _ hb) hS ho hslt))
  ·exact he.elim
 ·exact ts he (h.stable (fun b hb _=>hS b hb) (fun _ _ _=>rfl) (Nat.le_refl _) (fun _ _=>rfl))
theorem tu {H:List aq}:∀{xs ys:List D}, LC H xs ys→xs.length=ys.length∧∀(j:Nat) (y:D), ys[j]?=some y→∃x, xs[j]?=some x∧HI H x y
 | [], [], _=>⟨rfl, fun j y hy=>by simp at hy⟩
 | [], _::_, h=>h.elim
 | _::_, [], h=>h.elim
 | x::xs, y::ys, h=>by
  obtain⟨h1, h2⟩:=tu h.2
  refine⟨by simp[h1], fun j z hz=>?_⟩
  cases j with
  | zero=>simp at hz;subst hz;exact⟨x, rfl, h.1⟩
  | succ j=>simpa using h2 j z (by simpa using hz)
theorem xw {H:List aq}:∀{xs ys:List D}, LD H xs ys→xs.length=ys.length∧∀(j:Nat) (y:D), ys[j]?=some y→∃x, xs[j]?=some x∧Jh H x y
 | [], [], _=>⟨rfl, fun j y hy=>by simp at hy⟩
 | [], _::_, h=>h.elim
 | _::_, [], h=>h.elim
 | x::xs, y::ys, h=>by
  obtain⟨h1, h2⟩:=xw h.2
  refine⟨by simp[h1], fun j z hz=>?_⟩
  cases j with
  | zero=>simp at hz;subst hz;exact⟨x, rfl, h.1⟩
  | succ j=>simpa using h2 j z (by simpa using hz)
theorem f7:∀{l:List D}, fl l=true→∀(j:Nat) (x:D), l[j]?=some x→x.isOwn=false∧(∀cs, x=.agg cs→∀c∈cs, D.isOwn c=false)∧∀f a b, x=.fn f a b→(∀c∈a, D.isOwn c=false)∧∀c∈b, D.isOwn c=false
 | [], _, j, x, hx=>by simp at hx
 | d::l, h, j, x, hx=>by
  have hl:fl l=true:=by
   cases d<;>simp_all [fl]
  cases j with
  | zero =>
   simp at hx
   subst hx
   refine⟨by cases d<;>first | rfl | (simp[fl]at h), ?_, ?_⟩
   ·rintro cs rfl c hc
    simp only[fl, Bool.and_eq_true, List.all_eq_true]at h
    simpa using h.1 c hc
   ·rintro f a b rfl
    simp only[fl, Bool.and_eq_true, List.all_eq_true]at h
    exact⟨fun c hc=>by simpa using h.1 c hc, fun c hc=>by simpa using h.2.1 c hc⟩
  | succ j=>exact f7 hl j x (by simpa using hx)
theorem HK {H:List aq} {S':Nat→Prop} (hH:a9 S μ w H) (hS:∀b, S b→S' b) (hslt:∀b, S b→b<w.heap.size) {ds as:List D}
  (hown:(∀(i:Nat) (A:aq) (b:Nat), H[i]?=some A→A.isArr=true→bE (μ i) b→S' b)∨fl ds=true) {us:Array Value} (he:LD H ds as) (h:aM S μ w ds us):aM S' μ w as us:=by
 obtain⟨h1, h2⟩:=xw he
 refine⟨by rw[← h1];exact h.1, fun j y u hy hu=>?_⟩
 obtain⟨x, hx, hxy⟩:=h2 j y hy
 have hx':=h.2 j x u hx hu
 unfold Jh at hxy
 split at hxy
 ·rename_i xs ys
  obtain⟨vs, rfl, q1, q2⟩:=ec hx'
  obtain⟨r1, r2⟩:=tu hxy
  refine .agg _ _ (by rw[← r1];exact q1) (fun k z v hz hv=>?_)
  obtain⟨x', hx1, hx2⟩:=r2 k z hz
  exact qo hH hS hslt (hown.imp id fun hn=>(f7 hn j _ hx).2.1 _ rfl x' (List.mem_of_getElem? hx1)) hx2 (q2 k x' v hx1 hv)
 ·exact qo hH hS hslt (hown.imp id fun hn=>(f7 hn j _ hx).1) hxy hx'
theorem yY {H:List aq} {S':Nat→Prop} (hH:a9 S μ w H) (hS:∀b, S b→S' b) (hslt:∀b, S b→b<w.heap.size) (hown:∀(i:Nat) (A:aq) (b:Nat), H[i]?=some A→A.mem=true→bE (μ i) b→S' b) :
  ∀{cs:List D} {vs:List V}, AE H cs=some vs→vs.length=cs.length∧∀(j:Nat) (y:V), vs[j]?=some y→∃x, cs[j]?=some x∧∀u, ak S μ w x u→de S' w y u
 | [], vs, h=>by cases h;exact⟨rfl, fun j y hy=>by simp at hy⟩
 | c::r, vs, h=>by
  have key:∃y0 ys, vs=y0::ys∧AE H r=some ys∧∀u, ak S μ w c u→de S' w y0 u:=by
   unfold AE at h
   split at h
   ·rename_i he
    cases he
   ·rename_i x r' he
    cases he
    split at h
    ·rename_i xs hxs
     cases h
     exact⟨_, _, rfl, hxs, fun u hu=>(bg hu).stable (fun b hb _=>hS b hb) (fun _ _ _=>rfl) (Nat.le_refl _)⟩
    ·cases h
   ·rename_i r' he
    cases he
    split at h
    ·rename_i xs hxs
     cases h
     exact⟨_, _, rfl, hxs, fun u hu=>by cases hu;exact .nsl⟩
    ·cases h
   ·rename_i id r' he
    cases he
    split at h
    ·rename_i E sz α enc d l hb
     split at h
     ·rename_i xs hxs
      cases h
      exact⟨_, _, rfl, hxs, fun u hu=>by rw[bQ hu];exact eI (hH.box id _ hb) hS (fun b hb'=>hown id _ b hb rfl hb') hslt⟩
     ·cases h
    ·cases h
   ·cases h
  obtain⟨y0, ys, rfl, h1, h2⟩:=key
  obtain⟨q1, q2⟩:=yY hH hS hslt hown h1
  refine⟨by simp[q1], fun j y hy=>?_⟩
  cases j with
  | zero=>simp at hy;subst hy;exact⟨c, rfl, h2⟩
  | succ j=>simpa using q2 j y (by simpa using hy)
theorem xx {H:List aq} {S':Nat→Prop} (hH:a9 S μ w H) (hS:∀b, S b→S' b) (hslt:∀b, S b→b<w.heap.size) {x y:D} (hown:(∀(i:Nat) (A:aq) (b:Nat), H[i]?=some A→A.mem=true→bE (μ i) b→S' b)∨x.isOwn=false) {u:Value} (he:Lm H x y) (h:ak S μ w x u):ak S' μ w y u:=by
 unfold Lm at he
 split at he
 ·rename_i id i sz off cs o
  split at he
  ·rename_i T bcs hb
   have hown':∀(i:Nat) (A:aq) (b:Nat), H[i]?=some A→A.mem=true→bE (μ i) b→S' b:=by
    rcases hown with hown | hown
    ·exact hown
    ·cases hown
   split at he
   ·rename_i vs hc hv
    subst he
    simp only[Bool.and_eq_true, Nat.beq_eq]at hc
    obtain⟨rfl, rfl⟩:=hc
    obtain⟨b, hbk, rfl⟩:=nj h
    obtain⟨b', us, hu, h1, h2, h3⟩:=hH.box id _ hb
    rw[hu]at hbk
    simp[bE, aG]at hbk
    subst hbk
    obtain⟨q1, q2⟩:=yY hH hS hslt hown' hv
    have hlt:b'<w.heap.size:=(Array.getElem?_eq_some_iff.1 h1).1
    have:=ak.iptr (S:=S') (μ:=μ) (w:=w) vs off b' 0 (fun j=>us.getD j undef) (hown' id _ b' hb rfl (by rw[hu];exact .inl rfl)) hlt (fun j y hy=>?_) (fun j y hy=>?_)
    ·simpa using this
    ·have hj:j<us.size:=by rw[h2, ← q1];exact(List.getElem?_eq_some_iff.1 hy).1
     unfold World.cell?
     simp only[Nat.zero_add, h1]
     simp[Array.getD, hj]
    ·obtain⟨x, hx, hr⟩:=q2 j y hy
     have hj:j<us.size:=by rw[h2, ← q1];exact(List.getElem?_eq_some_iff.1 hy).1
     have hu2:us[j]?=some (us.getD j undef):=by simp[Array.getD, hj]
     exact hr _ (h3 j x _ hx hu2)
   ·exact he.elim
  ·exact he.elim
 ·exact qo hH hS hslt (hown.imp (fun hn i A b h1 h2 h3=>hn i A b h1 (aq.arr_mem h2) h3) id) he h
theorem xy {H:List aq}:∀{xs ys:List D}, LF H xs ys→xs.length=ys.length∧∀(j:Nat) (y:D), ys[j]?=some y→∃x, xs[j]?=some x∧Lm H x y
 | [], [], _=>⟨rfl, fun j y hy=>by simp at hy⟩
 | [], _::_, h=>h.elim
 | _::_, [], h=>h.elim
 | x::xs, y::ys, h=>by
  obtain⟨h1, h2⟩:=xy h.2
  refine⟨by simp[h1], fun j z hz=>?_⟩
  cases j with
  | zero=>simp at hz;subst hz;exact⟨x, rfl, h.1⟩
  | succ j=>simpa using h2 j z (by simpa using hz)
theorem B8 {H:List aq}:∀{xs ys:List D}, vA H xs ys→xs.length=ys.length∧∀(j:Nat) (y:D), ys[j]?=some y→∃x, xs[j]?=some x∧MY H x y
 | [], [], _=>⟨rfl, fun j y hy=>by simp at hy⟩
 | [], _::_, h=>h.elim
 | _::_, [], h=>h.elim
 | x::xs, y::ys, h=>by
  obtain⟨h1, h2⟩:=B8 h.2
  refine⟨by simp[h1], fun j z hz=>?_⟩
  cases j with
  | zero=>simp at hz;subst hz;exact⟨x, rfl, h.1⟩
  | succ j=>simpa using h2 j z (by simpa using hz)
theorem np {H:List aq} {S':Nat→Prop} (hH:a9 S μ w H) (hS:∀b, S b→S' b) (hslt:∀b, S b→b<w.heap.size) {ds as:List D}
  (hown:(∀(i:Nat) (A:aq) (b:Nat), H[i]?=some A→A.mem=true→bE (μ i) b→S' b)∨fl ds=true) {us:Array Value} (he:vA H ds as) (h:aM S μ w ds us):aM S' μ w as us:=by
 obtain⟨h1, h2⟩:=B8 he
 refine⟨by rw[← h1];exact h.1, fun j y u hy hu=>?_⟩
 obtain⟨x, hx, hxy⟩:=h2 j y hy
 have hx':=h.2 j x u hx hu
 unfold MY at hxy
 split at hxy
 ·rename_i xs ys
  obtain⟨vs, rfl, q1, q2⟩:=ec hx'
  obtain⟨r1, r2⟩:=tu hxy
  refine .agg _ _ (by rw[← r1];exact q1) (fun k z v hz hv=>?_)
  obtain⟨x', hx1, hx2⟩:=r2 k z hz
  refine qo hH hS hslt ?_ hx2 (q2 k x' v hx1 hv)
  rcases hown with hown | hn
  ·exact .inl (fun i A b h1 h2 h3=>hown i A b h1 (aq.arr_mem h2) h3)
  ·exact .inr ((f7 hn j _ hx).2.1 _ rfl x' (List.mem_of_getElem? hx1))
 ·rename_i f a b f' a' b'
  obtain⟨rfl, ha, hb⟩:=hxy
  obtain⟨a1, a2⟩:=xy ha
  obtain⟨b1, b2⟩:=xy hb
  cases hx' with
  | fn _ _ _ us vs q1 q2 q3 q4 =>
   refine .fn _ _ _ us vs (by rw[← a1];exact q1) (fun k z v hz hv=>?_) (by rw[← b1];exact q3) (fun k z v hz hv=>?_)
   ·obtain⟨x', hx1, hx2⟩:=a2 k z hz
    exact xx hH hS hslt (hown.imp id fun hn=>((f7 hn j _ hx).2.2 _ _ _ rfl).1 x' (List.mem_of_getElem? hx1)) hx2 (q2 k x' v hx1 hv)
   ·obtain⟨x', hx1, hx2⟩:=b2 k z hz
    exact xx hH hS hslt (hown.imp id fun hn=>((f7 hn j _ hx).2.2 _ _ _ rfl).2 x' (List.mem_of_getElem? hx1)) hx2 (q4 k x' v hx1 hv)
 ·exact xx hH hS hslt (hown.imp id fun hn=>(f7 hn j _ hx).1) hxy hx'
end
section
variable {C:lC} {S:Nat→Prop} {μ:Nat→Value} {st:St} {a:Act} {w w':World}
theorem aX.grow (h:aX C S μ st a w) {S':Nat→Prop} (h1:w'.os=w.os) (h2:w'.tape=w.tape) (h3:w'.output=w.output) (h4:w.heap.size≤w'.heap.size) (h5:∀k, k<w.heap.size→w'.heap[k]?=w.heap[k]?)
  (h6:∀b, S b→S' b) (h7:∀b, S' b→S b∨w.heap.size≤b) (h8:∀b, S' b→b<w'.heap.size):aX C S' μ st a w':=by
 have hblk:∀(i:Nat) (A:aq), st.heap[i]?=some A→A.live=true→∀b, bE (μ i) b→w'.heap[b]?=w.heap[b]?:=fun i A hA hl b hb=>h5 b ((h.heap.box i A hA).lt hl b hb)
 refine⟨h1.trans h.os, h2.trans h.tape, h3.trans h.output, Nat.le_trans h.size h4, fun k hk=>by rw[h5 k (Nat.lt_of_lt_of_le hk h.size)];exact h.old k hk, fun b hb=>h6 b (h.mono b hb), ?_, h8, ?_, ⟨?_, h.heap.apart, ?_⟩, h.may, ?_, h.tsize, h.ro⟩
 ·intro b hb
  rcases h7 b hb with hb | hb
  ·exact h.new b hb
  ·exact .inr (Nat.le_trans h.size hb)
 ·intro t d hm
  obtain⟨q1, q2⟩:=h.env t d hm
  exact⟨q1, q2.stable (fun b hb _=>h6 b hb) (fun b hb hl=>h5 b hl) h4 (fun _ _=>rfl)⟩
 ·intro i A hA
  rcases A.three with rfl | hl | hl
  ·trivial
  ·exact(h.heap.box i A hA).stable (fun b hb _=>h6 b hb) (fun b hb hl=>h5 b hl) h4 (fun _ _=>rfl) (hblk i A hA hl)
  ·exact(h.heap.box i A hA).stable (fun b hb _=>h6 b hb) (fun b hb hl=>h5 b hl) h4 (fun _ _=>rfl) (fun b hb=>h5 b ((h.heap.box i A hA).ltR hl b hb))
 ·intro i A b hA hl hb hS
  rcases h7 b hS with hS | hS
  ·exact h.heap.notS i A b hA hl hb hS
  ·have:=(h.heap.box i A hA).lt hl b hb
   omega
 ·obtain⟨mk, d1, d2, d3⟩:=h.defers
  refine⟨mk, d1, d2, fun b hb=>?_⟩
  obtain⟨q1, q2, q3, q4⟩:=d3 b hb
  have hlt:b<w.heap.size:=(Array.getElem?_eq_some_iff.1 q1).1
  exact⟨by rw[h5 b hlt];exact q1, q2, fun hb'=>(h7 b hb').elim q3 (fun h=>by omega), q4⟩
theorem aX.callCore (h:aX C S μ st a w) {f:FuncId} {as:List D} {al:Bool} {r:D} {us:Array Value} (hc:ai C.P f as [] al r []) {S1:Nat→Prop} (h1:∀b, S b→S1 b) (h2:∀b, S1 b→b<w.heap.size)
  (h3:al=true→∀b, S1 b→S b) (hus:aM S1 μ w as us) (hr:er r=true) {K:Value→World→Prop} (hK:∀S' u w', aX C S' μ st a w'→ak S' μ w' r u→K u w') :
  Calls C.P f us w (fun e w'=>∃u, e=.returned u∧K u w'):=by
 have slt:=h.slt
 refine(hc S1 μ w us h2 ⟨fun id B hB=>by simp at hB, fun i j A B b hA=>by simp at hA, fun i A b hA=>by simp at hA⟩ hus).mono ?_
 rintro e w' ⟨u, μ', S', rfl, q1, q2, q3, q4, q5, q6, q7, q8, q9, _⟩
 refine⟨u, rfl, hK (fun b=>S b∨(S' b∧w.heap.size≤b)) u w' (h.grow q1 q2 q3 q4 (fun k hk=>q5 k hk (fun i A hA=>by simp at hA)) (fun b hb=>.inl hb) ?_ ?_) ?_⟩
 ·rintro b (hb | ⟨_, hb⟩)
  ·exact .inl hb
  ·exact .inr hb
 ·rintro b (hb | ⟨hb, _⟩)
  ·exact Nat.lt_of_lt_of_le (slt b hb) q4
  ·exact q8 b hb
 ·refine q9.stable ?_ (fun _ _ _=>rfl) (Nat.le_refl _) (fun id hid=>by rw[f6 id r hr]at hid;cases hid)
  rintro b ⟨hb, hb2⟩ _
  rcases q7 b hb with hb3 | hb3
  ·rcases hb2 with hb2 | hb2
   ·exact .inl (h3 hb2 b hb3)
   ·exact .inr ⟨hb, hb2⟩
  ·exact .inr ⟨hb, hb3⟩
def pI (P:Program) (g:FuncId) (H:List aq) (ds:List D) (as:Option (List D)) (al:Bool) (r:D):Prop :=
 match as with
 | none=>ai P g ds [] al r []
 | some as=>vA H ds as∧ai P g as [] al r []
theorem aX.callPure (h:aX C S μ st a w) {f:FuncId} {ds:List D} {as:Option (List D)} {al:Bool} {r:D} {us:Array Value} (hc:pI C.P f st.heap ds as al r) (hus:aM S μ w ds us) (hal:al=false∨fl ds=true)
  (hr:er r=true) {K:Value→World→Prop} (hK:∀S' u w', aX C S' μ st a w'→ak S' μ w' r u→K u w') :
  Calls C.P f us w (fun e w'=>∃u, e=.returned u∧K u w'):=by
 cases as with
 | none=>exact h.callCore hc (fun _ h=>h) h.slt (fun _ _ h=>h) hus hr hK
 | some as =>
  obtain⟨hco, hc⟩:=hc
  have slt:=h.slt
  have hSc:∀b, (S b∨(al=false∧∃(i:Nat) (A:aq), st.heap[i]?=some A∧A.mem=true∧bE (μ i) b))→b<w.heap.size:=by
   rintro b (hb | ⟨_, i, A, hA, hl, hb⟩)
   ·exact slt b hb
   ·exact(h.heap.box i A hA).lt (aq.mem_live hl) b hb
  refine h.callCore hc (S1:=fun b=>S b∨(al=false∧∃(i:Nat) (A:aq), st.heap[i]?=some A∧A.mem=true∧bE (μ i) b)) (fun b hb=>.inl hb) hSc ?_ ?_ hr hK
  ·rintro hal b (hb | ⟨h0, _⟩)
   ·exact hb
   ·rw[hal]at h0;cases h0
  ·refine np h.heap (fun b hb=>.inl hb) slt ?_ hco hus
   rcases hal with hal | hal
   ·exact .inl (fun i A b hA hl hb=>.inr ⟨hal, i, A, hA, hl, hb⟩)
   ·exact .inr hal
def LG (id:Nat):D→D→Prop
 | .own i, .own j=>i=id∧j=0
 | .own _, .junk=>True
 | .own _, _=>False
 | x, y=>er y=true∧HH x y
def M5 (id:Nat):List D→List D→Prop
 | [], []=>True
 | x::xs, y::ys=>LG id x y∧M5 id xs ys
 | _, _=>False
def M6 (id:Nat):D→D→Prop
 | .agg xs, .agg ys=>M5 id xs ys
 | x, y=>LG id x y
def MZ (id:Nat):List D→List D→Prop
 | [], []=>True
 | x::xs, y::ys=>M6 id x y∧MZ id xs ys
 | _, _=>False
theorem B9 {S:Nat→Prop} {μ:Nat→Value} {w:World} {id:Nat} {x y:D} {u:Value} (h:LG id x y) (hx:ak S μ w x u):ak S (fun _=>μ id) w y u:=by
 unfold LG at h
 split at h
 ·obtain⟨rfl, rfl⟩:=h
  cases hx
  exact ak.own (μ:=fun _=>μ _) 0
 ·exact .junk _
 ·exact h.elim
 ·exact(ts h.2 hx).stable (fun _ h _=>h) (fun _ _ _=>rfl) (Nat.le_refl _) (fun i hi=>by rw[f6 i _ h.1]at hi;cases hi)
theorem Ca {id:Nat}:∀{xs ys:List D}, M5 id xs ys→xs.length=ys.length∧∀(j:Nat) (y:D), ys[j]?=some y→∃x, xs[j]?=some x∧LG id x y
 | [], [], _=>⟨rfl, fun j y hy=>by simp at hy⟩
 | [], _::_, h=>h.elim
 | _::_, [], h=>h.elim
 | x::xs, y::ys, h=>by
  obtain⟨h1, h2⟩:=Ca h.2
  refine⟨by simp[h1], fun j z hz=>?_⟩
  cases j with
  | zero=>simp at hz;subst hz;exact⟨x, rfl, h.1⟩
  | succ j=>simpa using h2 j z (by simpa using hz)
theorem Cb {id:Nat}:∀{xs ys:List D}, MZ id xs ys→xs.length=ys.length∧∀(j:Nat) (y:D), ys[j]?=some y→∃x, xs[j]?=some x∧M6 id x y
 | [], [], _=>⟨rfl, fun j y hy=>by simp at hy⟩
 | [], _::_, h=>h.elim
 | _::_, [], h=>h.elim
 | x::xs, y::ys, h=>by
  obtain⟨h1, h2⟩:=Cb h.2
  refine⟨by simp[h1], fun j z hz=>?_⟩
  cases j with
  | zero=>simp at hz;subst hz;exact⟨x, rfl, h.1⟩
  | succ j=>simpa using h2 j z (by simpa using hz)
theorem Cc {S:Nat→Prop} {μ:Nat→Value} {w:World} {id:Nat} {ds as:List D} {us:Array Value} (he:MZ id ds as) (h:aM S μ w ds us):aM S (fun _=>μ id) w as us:=by
 obtain⟨h1, h2⟩:=Cb he
 refine⟨by rw[← h1];exact h.1, fun j y u hy hu=>?_⟩
 obtain⟨x, hx, hxy⟩:=h2 j y hy
 have hx':=h.2 j x u hx hu
 unfold M6 at hxy
 split at hxy
 ·obtain⟨vs, rfl, q1, q2⟩:=ec hx'
  obtain⟨r1, r2⟩:=Ca hxy
  refine .agg _ _ (by rw[← r1];exact q1) (fun k z v hz hv=>?_)
  obtain⟨x', hx1, hx2⟩:=r2 k z hz
  exact B9 hx2 (q2 k x' v hx1 hv)
 ·exact B9 hxy hx'
def E3:Option aq→Option aq
 | some (.arr E sz enc d l)=>some (.ro E sz enc d l)
 | some (.ro E sz enc d l)=>some (.ro E sz enc d l)
 | _=>none
theorem v5 {S:Nat→Prop} {μ μ':Nat→Value} {w:World} {u:Value} {A B:aq} (h:E3 (some A)=some B) (hA:aJ S μ w u A):B.isRo=true∧aJ S μ' w u B:=by
 unfold E3 at h
 split at h
 ·rename_i e;cases e;cases h;exact⟨rfl, hA⟩
 ·rename_i e;cases e;cases h;exact⟨rfl, hA⟩
 ·cases h
def kA (P:Program) (g:FuncId) (H:List aq) (ds:List D) (id:Nat) (as:List D) (r:D):Prop :=
 match E3 H[id]? with
 | some B=>MZ id ds as∧ai P g as [B] true r []
 | none=>False
theorem Cd {S:Nat→Prop} {μ:Nat→Value} {w:World} {B:aq} (hr:B.isRo=true) (h:aJ S μ w (μ 0) B):a9 S μ w [B]:=by
 have hl:B.live=false:=by cases B<;>first | rfl | cases hr
 have one:∀(i:Nat) (A:aq), [B][i]?=some A→i=0∧A=B:=fun i A hA=>by
  match i with
  | 0=>simp at hA;exact⟨rfl, hA.symm⟩
  | i+1=>simp at hA
 refine⟨fun i A hA=>?_, fun i j A A' b hA _ la=>?_, fun i A b hA la=>?_⟩
 ·obtain⟨rfl, rfl⟩:=one i A hA;exact h
 ·rw[(one i A hA).2, hl]at la;cases la
 ·rw[(one i A hA).2, hl]at la;cases la
theorem aX.callR (h:aX C S μ st a w) {f:FuncId} {ds:List D} {id:Nat} {as:List D} {r:D} {us:Array Value} (hc:kA C.P f st.heap ds id as r) (hus:aM S μ w ds us)
  (hr:er r=true) {K:Value→World→Prop} (hK:∀S' u w', aX C S' μ st a w'→ak S' μ w' r u→K u w') :
  Calls C.P f us w (fun e w'=>∃u, e=.returned u∧K u w'):=by
 unfold kA at hc
 split at hc
 ·rename_i B hB
  obtain⟨hra, hc⟩:=hc
  cases hbx:st.heap[id]? with
  | none=>rw[hbx]at hB;cases hB
  | some A =>
   rw[hbx]at hB
   obtain⟨hro, hbox⟩:=v5 (μ':=fun _=>μ id) hB (h.heap.box id A hbx)
   have hl:B.live=false:=by cases B<;>first | rfl | cases hro
   have slt:=h.slt
   refine(hc S (fun _=>μ id) w us slt (Cd hro hbox) (Cc hra hus)).mono ?_
   rintro e w' ⟨u, μ', S', rfl, q1, q2, q3, q4, q5, q6, q7, q8, q9, _⟩
   have nolive:∀(k i:Nat) (A:aq), [B][i]?=some A→A.live=true→¬bE ((fun _=>μ id) i) k:=fun k i A hA la=>by
    match i with
    | 0=>simp at hA;rw[← hA, hl]at la;cases la
    | i+1=>simp at hA
   refine⟨u, rfl, hK S' u w' (h.grow q1 q2 q3 q4 (fun k hk=>q5 k hk (nolive k)) q6 q7 q8) ?_⟩
   exact q9.stable (fun b hb _=>hb.1) (fun _ _ _=>rfl) (Nat.le_refl _) (fun id hid=>by rw[f6 id r hr]at hid;cases hid)
 ·exact hc.elim
end
end Go.Proofs.YtckgpflobhpnpaaGreat
namespace Go.Proofs.YtckgpflobhpnpaaGreat
open Go.RowKit
set_option linter.unusedVariables false
set_option linter.unusedSimpArgs false
inductive Fz:Type 1
 | sl (x:V)
 | vr (cs:List V)
 | gs (f:Nat→V)
def Fz.own:Fz→D
 | .sl x=>.v x
 | .vr _=>.junk
 | .gs _=>.junk
def Fz.gr:Fz→Nat→D
 | .gs f, r=>.v (f r)
 | _, _=>.junk
def Fz.ptr:Fz→Nat→Nat→D
 | .sl _, _, _=>.junk
 | .gs _, _, _=>.junk
 | .vr cs, k, off=>if Nat.beq k 0 then .iptr cs off else .junk
mutual
def eL (id:Nat) (x:Fz):D→D
 | .own i=>if Nat.beq i id then x.own else .own i
 | .agg cs=>.agg (oI id x cs)
 | .tup cs=>.tup (oI id x cs)
 | .ptr i k sz off=>if Nat.beq i id then x.ptr k off else .ptr i k sz off
 | .fn f a b=>.fn f (oI id x a) (oI id x b)
 | .v y=>.v y
 | .nils=>.nils
 | .iptr cs off=>.iptr cs off
 | .yld i=>.yld i
 | .capd y=>.capd y
 | .gr i r=>if Nat.beq i id then x.gr r else .gr i r
 | .junk=>.junk
def oI (id:Nat) (x:Fz):List D→List D
 | []=>[]
 | d::r=>eL id x d::oI id x r
end
def oJ (id:Nat) (x:Fz):List (Nat×D)→List (Nat×D)
 | []=>[]
 | (t, d)::r=>(t, eL id x d)::oJ id x r
def pJ (id:Nat) (x:Fz):aq→aq
 | .var T cs=>.var T (oI id x cs)
 | .loop l tm nt env ps as bd s p=>.loop l tm nt (oJ id x env) ps as bd s p
 | .frame tm env=>.frame tm (oJ id x env)
 | .ro E sz enc d l=>.ro E sz enc d l
 | .dead=>.dead
 | .arr E sz enc d l=>.arr E sz enc d l
 | .mpb t ag enc d l=>.mpb t ag enc d l
 | .arrD E sz n gs cell=>if gs.all (fun g=>!(Nat.beq g id))then .arrD E sz n gs cell else .arrD E sz n gs (fun i j=>eL id x (cell i j))
 | .grp n f=>.grp n f
 | .nest E sz n ce m f=>.nest E sz n ce m f
def fb (id:Nat) (x:Fz):List aq→List aq
 | []=>[]
 | B::r=>pJ id x B::fb id x r
def pK:List D→Option (List V)
 | []=>some []
 | .v x::r=>match pK r with
  | some vs=>some (x::vs)
  | none=>none
 | _::_=>none
theorem Cf:∀{cs:List D} {vs:List V}, pK cs=some vs→cs=vs.map D.v
 | [], vs, h=>by simp[pK]at h;subst h;rfl
 | .v x::r, vs, h=>by
  unfold pK at h
  split at h
  ·rename_i vs' h'
   cases h
   rw[Cf h'];rfl
  ·cases h
 | .nils::_, _, h=>by simp[pK]at h
 | .own _::_, _, h=>by simp[pK]at h
 | .ptr _ _ _ _::_, _, h=>by simp[pK]at h
 | .iptr _ _::_, _, h=>by simp[pK]at h
 | .agg _::_, _, h=>by simp[pK]at h
 | .tup _::_, _, h=>by simp[pK]at h
 | .fn _ _ _::_, _, h=>by simp[pK]at h
 | .yld _::_, _, h=>by simp[pK]at h
 | .capd _::_, _, h=>by simp[pK]at h
 | .junk::_, _, h=>by simp[pK]at h
def nq (id:Nat) (st:St):Option St :=
 match st.heap[id]? with
 | some (.arr _ sz enc d l)=>some ⟨oJ id (.sl (.sl sz enc d l)) st.env, (fb id (.sl (.sl sz enc d l)) st.heap).set id .dead⟩
 | some (.var _ cs)=>match pK cs with
  | some vs=>some ⟨oJ id (.vr vs) st.env, (fb id (.vr vs) st.heap).set id .dead⟩
  | none=>none
 | some (.mpb _ ag enc d l)=>some ⟨oJ id (.sl (.sm ag enc d l)) st.env, (fb id (.sl (.sm ag enc d l)) st.heap).set id .dead⟩
 | some (.grp _ f)=>some ⟨oJ id (.gs fun r=>.sl (f r).sz (f r).enc (f r).d (f r).l) st.env, (fb id (.gs fun r=>.sl (f r).sz (f r).enc (f r).d (f r).l) st.heap).set id .dead⟩
 | _=>none
section
variable {P:Program} {S S':Nat→Prop} {μ:Nat→Value} {w:World} {id:Nat} {x:Fz}
def JQ (S':Nat→Prop) (μ:Nat→Value) (w:World) (id:Nat):Fz→Prop
 | .sl x=>de S' w x (μ id)
 | .gs f=>∀(us:Array Value), μ id=.tuple us→∀(r:Nat) (u:Value), us[r]?=some u→de S' w (f r) u
 | .vr cs=>∀(b off:Nat), aG (μ id)=some b→ak S' μ w (.iptr cs off) (.pointer (some ⟨b, off, none⟩))
theorem jP:∀(cs:List D) (j:Nat), (oI id x cs)[j]?=(cs[j]?).map (eL id x)
 | [], j=>by simp[oI]
 | d::r, 0=>by simp[oI]
 | d::r, j+1=>by simp[oI, jP r j]
theorem eY:∀(cs:List D), (oI id x cs).length=cs.length
 | []=>rfl
 | d::r=>by simp[oI, eY r]
theorem jQ:∀(H:List aq) (j:Nat), (fb id x H)[j]?=(H[j]?).map (pJ id x)
 | [], j=>by simp[fb]
 | d::r, 0=>by simp[fb]
 | d::r, j+1=>by simp[fb, jQ r j]
theorem qp:∀{env:List (Nat×D)} {t:Nat} {d:D}, (t, d)∈oJ id x env→∃e, (t, e)∈env∧d=eL id x e
 | (s, e)::r, t, d, h=>by
  rcases List.mem_cons.1 h with h | h
  ·cases h;exact⟨e, List.mem_cons_self .., rfl⟩
  ·obtain⟨e', h1, h2⟩:=qp h
   exact⟨e', List.mem_cons_of_mem _ h1, h2⟩
theorem qq (hx:JQ S' μ w id x) (hS:∀b, S b→S' b) {d:D} {u:Value} (h:ak S μ w d u):ak S' μ w (eL id x d) u:=by
 induction h with
 | v y u h=>exact .v y u (h.stable (fun b hb _=>hS b hb) (fun _ _ _=>rfl) (Nat.le_refl _))
 | nils=>exact .nils
 | own i =>
  unfold eL
  split
  ·rename_i hi
   rw[Nat.beq_eq]at hi
   subst hi
   cases x with
   | sl x=>exact .v _ _ hx
   | vr cs=>exact .junk _
   | gs f=>exact .junk _
  ·exact .own i
 | ptr i k sz off b h =>
  unfold eL
  split
  ·rename_i hi
   rw[Nat.beq_eq]at hi
   subst hi
   cases x with
   | sl x=>exact .junk _
   | gs f=>exact .junk _
   | vr cs =>
    unfold Fz.ptr
    simp only
    split
    ·rename_i hk
     rw[Nat.beq_eq]at hk
     subst hk
     rw[Nat.zero_mul, Nat.zero_add]
     exact hx b off h
    ·exact .junk _
  ·exact .ptr i k sz off b h
 | iptr cs off b o us h1 h2 h3 h4=>exact .iptr cs off b o us (hS b h1) h2 h3 (fun j y hy=>(h4 j y hy).stable (fun b hb _=>hS b hb) (fun _ _ _=>rfl) (Nat.le_refl _))
 | agg cs us h1 _ ih =>
  refine .agg _ us (by rw[eY];exact h1) (fun j y u hy hu=>?_)
  rw[jP]at hy
  cases hc:cs[j]? with
  | none=>rw[hc]at hy;cases hy
  | some e=>rw[hc]at hy;simp at hy;subst hy;exact ih j e u hc hu
 | tup cs us h1 _ ih =>
  refine .tup _ us (by rw[eY];exact h1) (fun j y u hy hu=>?_)
  rw[jP]at hy
  cases hc:cs[j]? with
  | none=>rw[hc]at hy;cases hy
  | some e=>rw[hc]at hy;simp at hy;subst hy;exact ih j e u hc hu
 | fn f a b us vs h1 _ h2 _ ih1 ih2 =>
  refine .fn f _ _ us vs (by rw[eY];exact h1) (fun j y u hy hu=>?_) (by rw[eY];exact h2) (fun j y u hy hu=>?_)
  ·rw[jP]at hy
   cases hc:a[j]? with
   | none=>rw[hc]at hy;cases hy
   | some e=>rw[hc]at hy;simp at hy;subst hy;exact ih1 j e u hc hu
  ·rw[jP]at hy
   cases hc:b[j]? with
   | none=>rw[hc]at hy;cases hy
   | some e=>rw[hc]at hy;simp at hy;subst hy;exact ih2 j e u hc hu
 | junk u=>exact .junk u
 | yld i l h=>exact .yld i l h
 | capd y p n h=>exact .capd y p n (h.stable (fun b hb _=>hS b hb) (fun _ _ _=>rfl) (Nat.le_refl _))
 | gr g r us u h h1 h2 =>
  unfold eL
  split
  ·rename_i hi
   rw[Nat.beq_eq]at hi
   subst hi
   cases x with
   | gs f=>exact .v _ _ (hx us h r u h1)
   | _=>exact .junk _
  ·exact .gr g r us u h h1 h2
end
mutual
theorem Cg {id k:Nat} {x:Fz}:∀d:D, D.free k d=true→D.free k (eL id x d)=true
 | .own i, h=>by
  unfold eL
  split
  ·cases x<;>rfl
  ·exact h
 | .ptr i k' sz off, h=>by
  unfold eL
  split
  ·cases x<;>first | rfl | (simp only[Fz.ptr];split<;>rfl)
  ·exact h
 | .gr i r, h=>by
  unfold eL
  split
  ·cases x<;>rfl
  ·exact h
 | .agg cs, h=>by simp only[eL, D.free];exact qr cs (by simpa only [D.free]using h)
 | .tup cs, h=>by simp only[eL, D.free];exact qr cs (by simpa only [D.free]using h)
 | .fn f a b, h=>by
  simp only[D.free, Bool.and_eq_true]at h
  simp only[eL, D.free, Bool.and_eq_true]
  exact⟨qr a h.1, qr b h.2⟩
 | .yld i, h=>h
 | .v _, _=>rfl
 | .nils, _=>rfl
 | .iptr _ _, _=>rfl
 | .capd _, _=>rfl
 | .junk, _=>rfl
theorem qr {id k:Nat} {x:Fz}:∀cs:List D, D.freeL k cs=true→D.freeL k (oI id x cs)=true
 | [], _=>rfl
 | c::cs, h=>by
  simp only[D.freeL, Bool.and_eq_true]at h
  simp only[oI, D.freeL, Bool.and_eq_true]
  exact⟨Cg c h.1, qr cs h.2⟩
end
theorem DN {id:Nat} {x:Fz} (B:aq):(pJ id x B).live=B.live:=by cases B<;>first | rfl | (simp only[pJ];split<;>rfl)
theorem HL {id:Nat} {x:Fz} (B:aq):(pJ id x B).isRo=B.isRo:=by cases B<;>first | rfl | (simp only[pJ];split<;>rfl)
theorem DP {id:Nat} {x:Fz} {B:aq} (h:B.isRo=true):pJ id x B=B:=by cases B<;>first | rfl | cases h
section
variable {C:lC} {st:St}
theorem aX.freezeX {S:Nat→Prop} {μ:Nat→Value} {a:Act} {w:World} (hR:aX C S μ st a w) {id:Nat} {Z:aq} {z:Fz} (hbox:st.heap[id]?=some Z) (hZ:Z.live=true) (hx:JQ (fun b=>S b∨bE (μ id) b) μ w id z) :
  aX C (fun b=>S b∨bE (μ id) b) μ ⟨oJ id z st.env, (fb id z st.heap).set id .dead⟩ a w:=by
  have hB:=hR.heap.box id _ hbox
  have hnew:∀b, bE (μ id) b→C.W.heap.size≤b:=fun b hb=>hR.may id _ b hbox hZ hb
  have hlt:∀b, bE (μ id) b→b<w.heap.size:=hB.lt hZ
  let S':Nat→Prop:=fun b=>S b∨bE (μ id) b
  have hid:id<st.heap.length:=(List.getElem?_eq_some_iff.1 hbox).1
  have hget:∀(i:Nat) (A:aq), ((fb id z st.heap).set id .dead)[i]?=some A→A.live=true→i≠id∧∃B, st.heap[i]?=some B∧A=pJ id z B∧B.live=true:=by
   intro i A hA hl
   by_cases hi:i=id
   ·subst hi
    rw[List.getElem?_set_self (by
     have:(fb i z st.heap)[i]?=(st.heap[i]?).map _:=jQ st.heap i
     rw[hbox]at this
     exact(List.getElem?_eq_some_iff.1 this).1)]at hA
    cases hA
    cases hl
   ·rw[List.getElem?_set_ne (fun e=>hi e.symm), jQ]at hA
    cases hc:st.heap[i]? with
    | none=>rw[hc]at hA;cases hA
    | some B =>
     rw[hc]at hA
     simp at hA
     refine⟨hi, B, rfl, hA.symm, ?_⟩
     subst hA
     rwa [DN]at hl
  have hgetR:∀(i:Nat) (A:aq), ((fb id z st.heap).set id .dead)[i]?=some A→A.isRo=true→i≠id∧st.heap[i]?=some A:=by
   intro i A hA hl
   by_cases hi:i=id
   ·subst hi
    rw[List.getElem?_set_self (by
     have:(fb i z st.heap)[i]?=(st.heap[i]?).map _:=jQ st.heap i
     rw[hbox]at this
     exact(List.getElem?_eq_some_iff.1 this).1)]at hA
    cases hA
    cases hl
   ·rw[List.getElem?_set_ne (fun e=>hi e.symm), jQ]at hA
    cases hc:st.heap[i]? with
    | none=>rw[hc]at hA;cases hA
    | some B =>
     rw[hc]at hA
     simp at hA
     refine⟨hi, ?_⟩
     subst hA
     rw[HL]at hl
     rw[DP hl]
  show aX C S' μ _ a w
  refine⟨hR.os, hR.tape, hR.output, hR.size, hR.old, fun b hb=>.inl (hR.mono b hb), ?_, ?_, ?_, ⟨?_, ?_, ?_⟩, ?_, ?_, hR.tsize, ?_⟩
  ·rintro b (hb | hb)
   ·exact hR.new b hb
   ·exact .inr (hnew b hb)
  ·rintro b (hb | hb)
   ·exact hR.slt b hb
   ·exact hlt b hb
  ·intro t e hm
   obtain⟨e', h1, rfl⟩:=qp hm
   obtain⟨q1, q2⟩:=hR.env t e' h1
   exact⟨q1, qq hx (fun b hb=>.inl hb) q2⟩
  ·intro i A hA
   rcases A.three with rfl | hl | hl
   ·trivial
   rotate_left
   ·obtain⟨hi, hA'⟩:=hgetR i A hA hl
    exact(hR.heap.box i A hA').stable (fun b hb _=>.inl hb) (fun _ _ _=>rfl) (Nat.le_refl _) (fun _ _=>rfl) (fun _ _=>rfl) 
   ·obtain⟨hi, B, hB', rfl, hBl⟩:=hget i A hA hl
    have hb:=hR.heap.box i B hB'
    cases B with
    | dead=>cases hBl
    | ro=>cases hBl
    | arr E2 sz2 enc2 d2 l2 =>
     exact hb.stable (fun b hb _=>.inl hb) (fun _ _ _=>rfl) (Nat.le_refl _) (fun _ _=>rfl) (fun _ _=>rfl)
    | mpb t2 ag2 enc2 d2 l2 =>
     exact hb.stable (fun b hb _=>.inl hb) (fun _ _ _=>rfl) (Nat.le_refl _) (fun _ _=>rfl) (fun _ _=>rfl)
    | nest E2 sz2 n ce m f=>exact hb.stable (fun b hb _=>.inl hb) (fun _ _ _=>rfl) (Nat.le_refl _) (fun _ _=>rfl) (fun _ _=>rfl)
    | grp n f=>exact hb.stable (fun b hb _=>.inl hb) (fun _ _ _=>rfl) (Nat.le_refl _) (fun _ _=>rfl) (fun _ _=>rfl)
    | arrD E2 sz2 n gs cell =>
     simp only[pJ]
     split
     ·exact hb.stable (fun b hb _=>.inl hb) (fun _ _ _=>rfl) (Nat.le_refl _) (fun _ _=>rfl) (fun _ _=>rfl)
     ·obtain⟨h0, xs, h1, h3⟩:=hb
      refine⟨fun i j k hi hj hk=>Cg _ (h0 i j k hi hj hk), xs, h1, fun i j hi hj=>?_⟩
      obtain⟨v, hv, ho, hr⟩:=h3 i j hi hj
      exact⟨v, hv, ho, qq hx (fun b hb=>.inl hb) hr⟩
    | var T cs =>
     obtain⟨b, vs, e, q1, q2, q3⟩:=hb
     refine⟨b, vs, e, q1, by rw[eY];exact q2, fun j y z hy hz=>?_⟩
     rw[jP]at hy
     cases hc:cs[j]? with
     | none=>rw[hc]at hy;cases hy
     | some y'=>rw[hc]at hy;simp at hy;subst hy;exact qq hx (fun b hb=>.inl hb) (q3 j y' z hc hz)
    | loop l tm nt env ps as bd s pe =>
     obtain⟨r, h0, h1, h2, h3, h4, h5, h6, h7, h8, h9⟩:=hb
     refine⟨r, h0, h1, h2, h3, h4, h5, h6, h7, h8, fun t e hm=>?_⟩
     obtain⟨e', k1, rfl⟩:=qp hm
     exact⟨(h9 t e' k1).1, qq hx (fun b hb=>.inl hb) (h9 t e' k1).2⟩
    | frame tm env =>
     obtain⟨h1, h9⟩:=hb
     refine⟨h1, fun t e hm=>?_⟩
     obtain⟨e', k1, rfl⟩:=qp hm
     exact⟨(h9 t e' k1).1, qq hx (fun b hb=>.inl hb) (h9 t e' k1).2⟩
  ·intro i j A A' b hA hA' hl hl'
   obtain⟨_, B, hB1, _, hBl⟩:=hget i A hA hl
   obtain⟨_, B', hB2, _, hBl'⟩:=hget j A' hA' hl'
   exact hR.heap.apart i j B B' b hB1 hB2 hBl hBl'
  ·intro i A b hA hl hb hs
   obtain⟨hi, B, hB1, _, hBl⟩:=hget i A hA hl
   rcases hs with hs | hs
   ·exact hR.heap.notS i B b hB1 hBl hb hs
   ·exact hi (hR.heap.apart i id B _ b hB1 hbox hBl hZ hb hs)
  ·intro i A b hA hl hb
   obtain⟨hi, B, hB1, _, hBl⟩:=hget i A hA hl
   exact hR.may i B b hB1 hBl hb
  ·obtain⟨mk, d1, d2, d3⟩:=hR.defers
   refine⟨mk, d1, d2, fun b hb=>?_⟩
   obtain⟨q1, q2, q3, q4⟩:=d3 b hb
   refine⟨q1, q2, fun hs=>?_, fun i A hA hl=>?_⟩
   ·rcases hs with hs | hs
    ·exact q3 hs
    ·exact q4 id _ hbox hZ hs
   ·obtain⟨hi, B, hB1, _, hBl⟩:=hget i A hA hl
    exact q4 i B hB1 hBl
  ·intro i A b hA hl
   obtain⟨hi, hA'⟩:=hgetR i A hA hl
   exact hR.ro i A b hA' hl
theorem aX.freezeZ {S:Nat→Prop} {μ:Nat→Value} {a:Act} {w:World} (hR:aX C S μ st a w) {id:Nat} {Z:aq} {z:Fz} (hbox:st.heap[id]?=some Z) (hZ:Z.live=true) (hx:JQ (fun b=>S b∨bE (μ id) b) μ w id z) :
  ∃S', aX C S' μ ⟨oJ id z st.env, (fb id z st.heap).set id .dead⟩ a w:=⟨_, hR.freezeX hbox hZ hx⟩
theorem aX.freeze {S:Nat→Prop} {μ:Nat→Value} {a:Act} {w:World} (hR:aX C S μ st a w) {id:Nat} {st':St} (h:nq id st=some st'):∃S', aX C S' μ st' a w:=by
 unfold nq at h
 split at h
 ·rename_i E sz α enc d l hbox
  simp only[Option.some.injEq]at h
  subst h
  exact hR.freezeZ hbox rfl (eI (hR.heap.box id _ hbox) (fun b hb=>.inl hb) (fun b hb=>.inr hb) hR.slt)
 ·rename_i T cs hbox
  split at h
  ·rename_i vs hvs
   simp only[Option.some.injEq]at h
   subst h
   have hc:=Cf hvs
   subst hc
   refine hR.freezeZ hbox rfl (fun b off hb=>?_)
   have hB:=hR.heap.box id _ hbox
   have hlt:b<w.heap.size:=hB.lt rfl b (.inl hb)
   have hcell:=hB.var_cells hb
   have hv:∀(j:Nat) (y:V), vs[j]?=some y→w.cell? ⟨b, 0+j, none⟩=some ((w.cell? ⟨b, 0+j, none⟩).getD undef)∧de S w y ((w.cell? ⟨b, 0+j, none⟩).getD undef):=by
    intro j y hy
    obtain⟨u, h1, h2⟩:=hcell j (.v y) (by rw[List.getElem?_map, hy];rfl)
    rw[h1]
    exact⟨rfl, bg h2⟩
   have:=ak.iptr (S:=fun b=>S b∨bE (μ id) b) (μ:=μ) (w:=w) vs off b 0 (fun j=>(w.cell? ⟨b, 0+j, none⟩).getD undef) (.inr (.inl hb)) hlt (fun j y hy=>(hv j y hy).1) (fun j y hy=>(hv j y hy).2.stable (fun b hb _=>.inl hb) (fun _ _ _=>rfl) (Nat.le_refl _))
   rwa [Nat.zero_add]at this
  ·cases h
 ·rename_i t ag α enc d l hbox
  simp only[Option.some.injEq]at h
  subst h
  exact hR.freezeZ hbox rfl (HJ (hR.heap.box id _ hbox) (fun b hb=>.inl hb) (fun b hb=>.inr hb))
 ·rename_i n f hbox
  simp only[Option.some.injEq]at h
  subst h
  refine hR.freezeZ hbox rfl (fun us hus r u hu=>?_)
  obtain⟨us', e, _, h2, _⟩:=hR.heap.box id _ hbox
  rw[hus]at e
  cases e
  exact eI (μ:=μ) (E:=(f r).E) (h2 r u hu).2 (fun b hb=>.inl hb) (fun b hb=>.inr (by
   rcases hb with hb | ⟨vs, e, k, x, hk, hx⟩
   ·exact .inr ⟨us, hus, r, u, hu, hb⟩
   ·subst e;have:=(h2 r _ hu).1;cases this)) hR.slt
 ·cases h
mutual
theorem rP {id:Nat} {x:Fz}:∀d:D, D.free id d=true→eL id x d=d
 | .own i, h=>by
  simp only[D.free, Bool.not_eq_true']at h
  simp only[eL, h, Bool.false_eq_true, if_false]
 | .ptr i k sz off, h=>by
  simp only[D.free, Bool.not_eq_true']at h
  simp only[eL, h, Bool.false_eq_true, if_false]
 | .agg cs, h=>by simp only[D.free]at h;simp only[eL, io cs h]
 | .tup cs, h=>by simp only[D.free]at h;simp only[eL, io cs h]
 | .fn f a b, h=>by simp only[D.free, Bool.and_eq_true]at h;simp only[eL, io a h.1, io b h.2]
 | .v _, _=>rfl
 | .nils, _=>rfl
 | .iptr _ _, _=>rfl
 | .yld _, _=>rfl
 | .capd _, _=>rfl
 | .gr i r, h=>by
  simp only[D.free, Bool.not_eq_true']at h
  simp only[eL, h, Bool.false_eq_true, if_false]
 | .junk, _=>rfl
theorem io {id:Nat} {x:Fz}:∀cs:List D, D.freeL id cs=true→oI id x cs=cs
 | [], _=>rfl
 | c::cs, h=>by
  simp only[D.freeL, Bool.and_eq_true]at h
  simp only[oI, rP c h.1, io cs h.2]
end
theorem nr {id:Nat} {x:Fz}:∀{env:List (Nat×D)}, bN id env=true→oJ id x env=env
 | [], _=>rfl
 | (t, d)::r, h=>by
  simp only[bN, Bool.and_eq_true]at h
  simp only[oJ, rP d h.1, nr h.2]
theorem v6 {id:Nat} {x:Fz} (B:aq) (h:aq.free id B=true):pJ id x B=B:=by
 cases B with
 | var T cs=>simp only[aq.free]at h;simp only[pJ, io cs h]
 | loop l tm nt env ps a b s p=>simp only[aq.free]at h;simp only[pJ, nr h]
 | frame tm env=>simp only[aq.free]at h;simp only[pJ, nr h]
 | arrD E sz n gs cell=>simp only[aq.free]at h;simp only[pJ, h, if_true]
 | _=>rfl
theorem v7 {id:Nat} {x:Fz}:∀{H:List aq}, bx id H=true→fb id x H=H
 | [], _=>rfl
 | B::r, h=>by
  simp only[bx, Bool.and_eq_true]at h
  simp only[fb, v6 B h.1, v7 h.2]
theorem un {id:Nat} {x:Fz}:∀(A B:List aq), fb id x (A++B)=fb id x A++fb id x B
 | [], B=>rfl
 | a::A, B=>by simp only[List.cons_append, fb, un A B]
theorem yZ {id:Nat} {x:Fz}:∀(H:List aq), (fb id x H).length=H.length
 | []=>rfl
 | B::r=>by simp[fb, yZ r]
end
end Go.Proofs.YtckgpflobhpnpaaGreat
namespace Go.Proofs.YtckgpflobhpnpaaGreat
open Go.RowKit
set_option linter.unusedVariables false
set_option linter.unusedSimpArgs false
def Ev (C:lC) (c:Code) (Q:Exit→St→Prop) (st:St):Prop :=
 ∀(a:Act) (w:World) (S:Nat→Prop) (μ:Nat→Value), aX C S μ st a w→c.wpIn (nh C.rd) 0 C.P (fun e a' w'=>∃st' S' μ', Q e st'∧aX C S' μ' st' a' w') a w
def DQ (P:Program) (st:St):ResultVar→R1
 | .tmp t=>(o7 st.env t, True)
 | .cell a T=>match o7 st.env a with
  | .ptr id i sz off=>B2 P T st.heap (.ptr id i sz off)
  | _=>aN
def resL (P:Program) (st:St):List ResultVar→List D×Prop
 | []=>([], True)
 | r::rs=>match DQ P st r with
  | (d, p)=>match resL P st rs with
   | (ds, q)=>(d::ds, p∧q)
def DR (P:Program) (rs:List ResultVar) (st:St):R1 :=
 match resL P st rs with
 | ([d], p)=>(d, p)
 | (ds, p)=>(.tup ds, p)
def gC (P:Program) (fn:Func) (st:St):Prop:=(DR P fn.results.toList st).2
def hJ (P:Program) (fn:Func) (st:St):D:=(DR P fn.results.toList st).1
section
variable {C:lC} {S:Nat→Prop} {μ:Nat→Value} {st:St} {a:Act} {w:World}
theorem aX.resL (h:aX C S μ st a w):∀(rs:List ResultVar) (ds:List D) (p:Prop), Proofs.YtckgpflobhpnpaaGreat.resL C.P st rs=(ds, p)→p →
  ∃us:List Value, (rs.mapM (fun r=>(match r with
   | .tmp t=>pure (a.tmps.getD t undef)
   | .cell x t=>do loadVar t (← asAddr (a.tmps.getD x undef)):Sem Value))).run C.P w=.ok us w∧us.length=ds.length∧∀(j:Nat) (y:D) (u:Value), ds[j]?=some y→us[j]?=some u→ak S μ w y u:=by
 intro rs
 induction rs with
 | nil =>
  intro ds p hp _
  simp only[Proofs.YtckgpflobhpnpaaGreat.resL, Prod.mk.injEq]at hp
  obtain⟨rfl, _⟩:=hp
  exact⟨[], rfl, rfl, fun j y u hy=>by simp at hy⟩
 | cons r rs ih =>
  intro ds p hp hob
  unfold Proofs.YtckgpflobhpnpaaGreat.resL at hp
  generalize h1:DQ C.P st r=q1 at hp
  obtain⟨d1, p1⟩:=q1
  simp only at hp
  generalize h2:Proofs.YtckgpflobhpnpaaGreat.resL C.P st rs=q2 at hp
  obtain⟨ds2, p2⟩:=q2
  simp only[Prod.mk.injEq]at hp
  obtain⟨rfl, rfl⟩:=hp
  obtain⟨us, e1, e2, e3⟩:=ih ds2 p2 h2 hob.2
  have hone:∃u, ((match r with
   | .tmp t=>pure (a.tmps.getD t undef)
   | .cell x t=>do loadVar t (← asAddr (a.tmps.getD x undef)):Sem Value)).run C.P w=.ok u w∧ak S μ w d1 u:=by
   cases r with
   | tmp t =>
    simp only[DQ, Prod.mk.injEq]at h1
    obtain⟨rfl, _⟩:=h1
    exact⟨_, rfl, h.eval (.tmp t)⟩
   | cell x T =>
    unfold DQ at h1
    simp only at h1
    split at h1
    ·rename_i id i sz off hl
     have hv:=h.eval (.tmp x)
     simp only[eB]at hv
     rw[hl]at hv
     obtain⟨u, r1, r2⟩:=sH h.heap hv h1 hob.1
     obtain⟨b, _, hu⟩:=nj hv
     refine⟨u, ?_, r2⟩
     have he:a.tmps.getD x undef=.pointer (some ⟨b, i*sz+off, none⟩):=hu
     rw[hu]at r1
     simp only[he]
     simp only[Instr.loadAt, Instr.sureAddr, Sem.run_bind, Sem.run_pure, Result.andThen_ok]at r1
     simp only[asAddr, Sem.run_bind, Sem.run_pure, Result.andThen_ok]
     exact r1
    ·cases h1;exact hob.1.elim
  obtain⟨u, f1, f2⟩:=hone
  refine⟨u::us, ?_, by simp[e2], fun j y v hy hv=>?_⟩
  ·simp only[List.mapM_cons, Sem.run_bind, f1, Result.andThen_ok, e1, Sem.run_pure]
  ·cases j with
   | zero=>simp at hy hv;subst hy hv;exact f2
   | succ j=>exact e3 j y v (by simpa using hy) (by simpa using hv)
theorem aX.results (h:aX C S μ st a w) {fn:Func} (hob:gC C.P fn st):∃u, (results fn a.tmps).run C.P w=.ok u w∧ak S μ w (hJ C.P fn st) u:=by
 unfold gC at hob
 unfold hJ
 generalize hq:Proofs.YtckgpflobhpnpaaGreat.resL C.P st fn.results.toList=q at hob ⊢
 obtain⟨ds, p⟩:=q
 have hp:p:=by
  unfold DR at hob
  rw[hq]at hob
  split at hob<;>rename_i he<;>cases he<;>exact hob
 obtain⟨us, e1, e2, e3⟩:=h.resL _ _ _ hq hp
 have hm:(fn.results.mapM (fun r=>(match r with
   | .tmp t=>pure (a.tmps.getD t undef)
   | .cell x t=>do loadVar t (← asAddr (a.tmps.getD x undef)):Sem Value))).run C.P w=.ok us.toArray w:=by
  rw[Array.mapM_eq_mapM_toList]
  have hb:∀(s:Sem (List Value)) (r:List Value), s.run C.P w=.ok r w→((s.bind (Sem.pure ∘ List.toArray)):Sem (Array Value)).run C.P w=.ok r.toArray w:=by
   intro s r h
   show Sem.run C.P (s >>= (Sem.pure ∘ List.toArray)) w=_
   rw[Sem.run_bind, h]
   rfl
  exact hb _ _ e1
 refine⟨if h:us.toArray.size=1 then us.toArray[0]else .tuple us.toArray, ?_, ?_⟩
 ·unfold Go.results
  rw[Sem.run_bind]
  refine(congrArg (fun r=>Result.andThen r _) hm).trans ?_
  rfl
 ·unfold DR
  rw[hq]
  cases ds with
  | nil =>
   have:us=[]:=List.eq_nil_of_length_eq_zero e2
   subst this
   exact .tup _ _ rfl (fun j y u hy=>by simp at hy)
  | cons d ds =>
   cases ds with
   | nil =>
    obtain⟨u, rfl⟩:=List.length_eq_one_iff.1 (by simpa using e2)
    exact e3 0 d u rfl rfl
   | cons d2 ds =>
    rw[dif_neg (by simp[e2])]
    exact .tup _ _ (by simp[e2]) (fun j y u hy hu=>e3 j y u hy (by simpa using hu))
end
def iC:Nat→List D→List (Nat×D)
 | _, []=>[]
 | i, d::r=>(i, d)::iC (i+1) r
theorem v8:∀{ds:List D} {i t:Nat} {d:D}, (t, d)∈iC i ds→i≤t∧ds[t-i]?=some d
 | d'::r, i, t, d, h=>by
  rcases List.mem_cons.1 h with h | h
  ·cases h;exact⟨Nat.le_refl _, by simp⟩
  ·obtain⟨h1, h2⟩:=v8 h
   refine⟨by omega, ?_⟩
   rw[show t-i=(t-(i+1))+1 from by omega]
   simpa using h2
def uo (us:Array Value) (nt:Nat):Act:={ tmps:=us++Array.replicate (nt-us.size) undef, defers:=[] }
def y2 (b:Nat):Deferred:={ target:=.collected b, args:=#[] }
section
variable {C C1:lC} {S:Nat→Prop} {μ:Nat→Value} {st:St} {a a1:Act} {w w':World}
theorem aX.turn (h:aX C S μ st a w) {mk mk1:List Nat} (d2:(mk1++C1.susp).Nodup)
  (d3:∀b∈mk1++C1.susp, w.heap[b]?=some (.deferred (some []))∧C.W.heap.size≤b∧¬S b∧∀(i:Nat) (A:aq), st.heap[i]?=some A→A.live=true→¬bE (μ i) b)
  (hW:C1.W=C.W) (hS:C1.S0=C.S0) (hd:a1.defers=mk1.map fun b=>{ target:=.collected b, args:=#[] }) (ht:a1.tmps.size=C1.nt) {env1:List (Nat×D)}
  (he:∀(t:Nat) (d:D), (t, d)∈env1→t<C1.nt∧ak S μ w d (a1.tmps.getD t undef)):aX C1 S μ ⟨env1, st.heap⟩ a1 w :=
 ⟨by rw[hW];exact h.os, by rw[hW];exact h.tape, by rw[hW];exact h.output, by rw[hW];exact h.size, by rw[hW];exact h.old, by rw[hS];exact h.mono, by rw[hS, hW];exact h.new, h.slt, he, h.heap, by rw[hW];exact h.may,
  ⟨mk1, hd, d2, by rw[hW];exact d3⟩, ht, by rw[hW];exact h.ro⟩
theorem aX.back (h:aX C1 S μ st a1 w) {mk:List Nat} (hW:C1.W=C.W) (hS:C1.S0=C.S0) (hs:C1.susp=mk++C.susp) (hd:a.defers=mk.map fun b=>{ target:=.collected b, args:=#[] }) (ht:a.tmps.size=C.nt)
  {env:List (Nat×D)} (he:∀(t:Nat) (d:D), (t, d)∈env→t<C.nt∧ak S μ w d (a.tmps.getD t undef)):aX C S μ ⟨env, st.heap⟩ a w:=by
 obtain⟨mk', e1, e2, e3⟩:=h.defers
 rw[hs]at e2 e3
 exact h.turn (mk:=mk') (mk1:=mk) (List.nodup_append.1 e2).2.1 (fun b hb=>e3 b (List.mem_append_right _ hb)) hW.symm hS.symm hd ht he
theorem aX.heapTo (h:aX C S μ st a w) {H:List aq} (hH:∀(i:Nat) (B:aq), H[i]?=some B→B=.dead∨st.heap[i]?=some B):aX C S μ ⟨st.env, H⟩ a w:=by
 have live:∀(i:Nat) (B:aq), H[i]?=some B→B.live=true→st.heap[i]?=some B:=fun i B hB hl=>by
  rcases hH i B hB with rfl | h1
  ·cases hl
  ·exact h1
 refine⟨h.os, h.tape, h.output, h.size, h.old, h.mono, h.new, h.slt, h.env, ⟨fun i B hB=>?_, fun i j A B b hA hB la lb=>h.heap.apart i j A B b (live i A hA la) (live j B hB lb) la lb, fun i A b hA la=>h.heap.notS i A b (live i A hA la) la⟩,
  fun i A b hA la=>h.may i A b (live i A hA la) la, ?_, h.tsize, fun i A b hA la=>?_⟩
 ·rcases hH i B hB with rfl | h1
  ·trivial
  ·exact h.heap.box i B h1
 ·obtain⟨mk, d1, d2, d3⟩:=h.defers
  refine⟨mk, d1, d2, fun b hb=>?_⟩
  obtain⟨q1, q2, q3, q4⟩:=d3 b hb
  exact⟨q1, q2, q3, fun i A hA hl=>q4 i A (live i A hA hl) hl⟩
 ·rcases hH i A hA with rfl | h1
  ·cases la
  ·exact h.ro i A b h1 la
theorem aX.shut (h:aX C S μ st a w) {b:Nat} {ds:List Deferred} (hd:a.defers={ target:=.collected b, args:=#[] }::ds) :
  w.heap[b]?=some (.deferred (some []))∧aX C S μ st { a with defers:=ds } (w.putObj b (.deferred none)):=by
 obtain⟨mk, d1, d2, d3⟩:=h.defers
 cases mk with
 | nil=>rw[hd]at d1;cases d1
 | cons b' mk =>
  rw[hd]at d1
  simp only[List.map_cons, List.cons.injEq, Deferred.mk.injEq, Target.collected.injEq, and_true]at d1
  obtain⟨rfl, d1⟩:=d1
  obtain⟨q1, q2, q3, q4⟩:=d3 b (by simp)
  have hlt:b<w.heap.size:=(Array.getElem?_eq_some_iff.1 q1).1
  have hne:∀k, k≠b→(w.putObj b (.deferred none)).heap[k]?=w.heap[k]?:=fun k hk=>World.putObj_heap_other hk
  have hS:∀k, S k→(w.putObj b (.deferred none)).heap[k]?=w.heap[k]?:=fun k hk=>hne k (fun e=>q3 (e ▸ hk))
  have hsz:(w.putObj b (.deferred none)).heap.size=w.heap.size:=World.putObj_size
  refine⟨q1, h.os, h.tape, h.output, by rw[hsz];exact h.size, fun k hk=>by rw[hne k (by omega)];exact h.old k hk, h.mono, h.new, fun k hk=>by rw[hsz];exact h.slt k hk, fun t d hm=>?_, ⟨fun i A hA=>?_, h.heap.apart, h.heap.notS⟩, h.may, ⟨mk, d1, ?_, fun k hk=>?_⟩, h.tsize, h.ro⟩
  ·obtain⟨r1, r2⟩:=h.env t d hm
   exact⟨r1, r2.stable (fun _ h _=>h) (fun k hk _=>hS k hk) (by rw[hsz];exact Nat.le_refl _) (fun _ _=>rfl)⟩
  ·rcases A.three with rfl | hl | hl
   ·trivial
   ·exact(h.heap.box i A hA).stable (fun _ h _=>h) (fun k hk _=>hS k hk) (by rw[hsz];exact Nat.le_refl _) (fun _ _=>rfl) (fun k hk=>hne k (fun e=>q4 i A hA hl (e ▸ hk)))
   ·exact(h.heap.box i A hA).stable (fun _ h _=>h) (fun k hk _=>hS k hk) (by rw[hsz];exact Nat.le_refl _) (fun _ _=>rfl) (fun k hk=>hne k (fun e=>by have:=h.ro i A k hA hl hk;omega))
  ·rw[List.cons_append]at d2
   exact(List.nodup_cons.1 d2).2
  ·obtain⟨r1, r2, r3, r4⟩:=d3 k (by rw[List.cons_append];exact List.mem_cons_of_mem _ hk)
   have hkb:k≠b:=fun e=>by
    rw[List.cons_append]at d2
    exact(List.nodup_cons.1 d2).1 (e ▸ hk)
   exact⟨by rw[hne k hkb];exact r1, r2, r3, r4⟩
theorem aX.leaves {fn:Func} (hob:gC C.P fn st) {F:Fence} {R:Ending→World→Prop}:∀(ds:List Deferred) (a:Act) (w:World), a.defers=ds→aX C S μ st a w →
  (∀w' a' u, aX C S μ st a' w'→ak S μ w' (hJ C.P fn st) u→R (.returned u) w')→LeavesInM F 0 C.P fn a.tmps R ds .returning w
 | [], a, w, hd, h, hK=>by
  obtain⟨u, h1, h2⟩:=h.results hob
  exact⟨u, h1, hK w a u h h2⟩
 | d::ds, a, w, hd, h, hK=>by
  have hdd:∃b, d={ target:=.collected b, args:=#[] }:=by
   obtain⟨mk, d1, _⟩:=h.defers
   rw[hd]at d1
   cases mk with
   | nil=>cases d1
   | cons b mk=>exact⟨b, by simp only[List.map_cons, List.cons.injEq]at d1;exact d1.1⟩
  obtain⟨b, rfl⟩:=hdd
  obtain⟨q1, q2⟩:=h.shut hd
  refine⟨by simp, .inl ⟨b, _, rfl, run_takeDeferred q1, ?_⟩⟩
  exact aX.leaves hob ds { a with defers:=ds } _ rfl q2 hK
theorem jj {f:FuncId} {fn:Func} {c:Code} (hf:C.P.funcs[f]?=some fn) (hb:fn.body=some c) (hrd:C.rd=none) {us:Array Value} {Q:Exit→St→Prop}
  (hR:aX C S μ st (uo us fn.ntmps) w) (hev:Ev C c Q st) (hQ:∀e st', Q e st'→(e=.normal∨e=.ret)∧gC C.P fn st') :
  Calls C.P f us w (fun e w'=>∃u e0 st' S' μ' a', e=.returned u∧Q e0 st'∧aX C S' μ' st' a' w'∧ak S' μ' w' (hJ C.P fn st') u):=by
 have h:=hev _ w S μ hR
 rw[hrd]at h
 refine callsIn_wide.1 (callsIn_of_wp_marks (n:=0) hf hb trivial (wpIn_mono h ?_))
 rintro e a' w' ⟨st', S', μ', hq, hR'⟩
 obtain⟨he, hob⟩:=hQ e st' hq
 have key:LeavesInM Fence.wide 0 C.P fn a'.tmps (fun e w'=>∃u e0 st' S' μ' a', e=.returned u∧Q e0 st'∧aX C S' μ' st' a' w'∧ak S' μ' w' (hJ C.P fn st') u) a'.defers .returning w' :=
  hR'.leaves hob a'.defers a' w' rfl (fun w2 a2 u hR2 hu=>⟨u, e, st', S', μ', a2, rfl, hq, hR2, hu⟩)
 rcases he with rfl | rfl
 ·exact key
 ·exact key
end
theorem tv {S:Nat→Prop} {μ:Nat→Value} {w:World} {ds:List D} {us:Array Value} (h:aM S μ w ds us) {nt:Nat} (hn:ds.length≤nt):∀(t:Nat) (d:D), (t, d)∈iC 0 ds→t<nt∧ak S μ w d ((uo us nt).tmps.getD t undef):=by
 intro t d hm
 obtain⟨_, h2⟩:=v8 hm
 rw[Nat.sub_zero]at h2
 have ht:=(List.getElem?_eq_some_iff.1 h2).1
 refine⟨by omega, ?_⟩
 have hlt:t<us.size:=by rw[h.1];exact ht
 have:(us++Array.replicate (nt-us.size) undef).getD t undef=us[t]:=by
  simp only[Array.getD_eq_getD_getElem?]
  rw[Array.getElem?_append_left hlt]
  simp[hlt]
 show ak S μ w d ((us++Array.replicate (nt-us.size) undef).getD t undef)
 rw[this]
 exact h.2 t d _ h2 (Array.getElem?_eq_getElem hlt)
theorem qs {ds:List D} {us:Array Value} (h:us.size=ds.length) {nt:Nat} (hn:ds.length≤nt):(uo us nt).tmps.size=nt:=by
 show(us++Array.replicate (nt-us.size) undef).size=nt
 simp
 omega
end Go.Proofs.YtckgpflobhpnpaaGreat
namespace Go.Proofs.YtckgpflobhpnpaaGreat
open Go.RowKit
set_option linter.unusedVariables false
set_option linter.unusedSimpArgs false
def V.flat:V→Bool
 | .int _ _=>true
 | .bool _=>true
 | .str _=>true
 | .nilf=>true
 | _=>false
def v9:aq→Prop
 | .arr _ _ enc _ l=>∀x∈l, ∀y∈enc x, y.flat=true
 | _=>False
theorem de.flat {S S':Nat→Prop} {w:World} {x:V} {u:Value} (h:de S w x u) (hx:x.flat=true):de S' w x u:=by
 cases h<;>first | (cases hx;done) | constructor
theorem aJ.flat {S S':Nat→Prop} {μ μ':Nat→Value} {w:World} {u:Value} {B:aq} (h:aJ S μ w u B) (hB:v9 B):aJ S' μ' w u B:=by
 cases B with
 | arr E sz enc d l =>
  obtain⟨h0, xs, h1, h3⟩:=h
  refine⟨h0, xs, h1, fun i x j y hx hy=>?_⟩
  obtain⟨z, hz, hr⟩:=h3 i x j y hx hy
  exact⟨z, hz, hr.flat (hB x (List.mem_of_getElem? hx) y (List.mem_of_getElem? hy))⟩
 | _=>exact hB.elim
theorem wa {B:aq} (h:v9 B):B.isArr=true:=by
 cases B<;>first | rfl | exact h.elim
def scal:D→Bool
 | .v x=>x.flat
 | _=>false
def wb:List D→Bool
 | []=>true
 | .own i::cs=>Nat.beq i 0&&wb cs
 | c::cs=>scal c&&wb cs
def AF:D→Bool
 | .own i=>Nat.beq i 0
 | .gr i _=>Nat.beq i 0
 | .agg cs=>wb cs
 | _=>false
def Oq (n:Nat):D→D
 | .own _=>.own n
 | d=>d
def D.up (n:Nat):D→D
 | .own _=>.own n
 | .gr _ r=>.gr n r
 | .agg cs=>.agg (cs.map (Oq n))
 | d=>d
theorem wc:∀{cs:List D} {j:Nat} {c:D}, wb cs=true→cs[j]?=some c→c=.own 0∨scal c=true
 | [], j, c, _, h=>by simp at h
 | x::cs, 0, c, h, hc=>by
  simp at hc
  subst hc
  cases x<;>simp only[wb, Bool.and_eq_true]at h<;>first | exact .inr h.1 | (have:=Nat.beq_eq.mp h.1;subst this;exact .inl rfl)
 | x::cs, j+1, c, h, hc=>by
  refine wc (cs:=cs) (j:=j) ?_ (by simpa using hc)
  cases x<;>simp only[wb, Bool.and_eq_true]at h<;>exact h.2
theorem HM {S S':Nat→Prop} {μ μ':Nat→Value} {w:World} {c:D} {u:Value} {n:Nat} (h:ak S μ w c u) (hc:c=.own 0∨scal c=true) (hm:μ' n=μ 0):ak S' μ' w (Oq n c) u:=by
 rcases hc with rfl | hc
 ·cases h
  rw[← hm]
  exact .own n
 ·cases c<;>first | cases hc | skip
  cases h with
  | v _ _ h=>exact .v _ _ (h.flat hc)
theorem AH {S S':Nat→Prop} {μ μ':Nat→Value} {w:World} {r:D} {u:Value} {n:Nat} (h:ak S μ w r u) (hr:AF r=true) (hm:μ' n=μ 0):ak S' μ' w (r.up n) u:=by
 cases r<;>first | cases hr | skip
 ·rename_i i
  have:=Nat.beq_eq.mp hr
  subst this
  cases h
  rw[← hm]
  exact .own n
 ·rename_i cs
  cases h with
  | agg _ us h1 h2 =>
   refine .agg _ us (by rw[List.length_map];exact h1) (fun j y x hy hx=>?_)
   rw[List.getElem?_map, Option.map_eq_some_iff]at hy
   obtain⟨c, hc, rfl⟩:=hy
   exact HM (h2 j c x hc hx) (wc hr hc) hm
 ·rename_i i r
  have:=Nat.beq_eq.mp hr
  subst this
  cases h with
  | gr _ _ us _ h1 h2 h3=>exact .gr n r us u (by rw[hm];exact h1) h2 h3
theorem aJ.arrMu {S:Nat→Prop} {μ μ':Nat→Value} {w:World} {u:Value} {B:aq} (h:aJ S μ w u B) (hB:B.isOwn=true):aJ S μ' w u B:=by
 cases B<;>first | (cases hB;done) | exact h
theorem l7 {w:World} {E sz n b:Nat} {u:Value} {xs:List Value} (h:w.ownsRow 0 E sz u n xs) (hb:aG u=some b):∃cs T x, w.heap[b]?=some (.cells cs T x):=by
 obtain⟨_, h2⟩:=h
 rcases h2 with ⟨rfl, _⟩ | ⟨g, cap, cur, rfl, hg, hh2, r⟩
 ·simp[aG]at hb
 ·simp[aG]at hb
  subst hb
  exact⟨_, _, _, hh2⟩
theorem aJ.ownBlk {S:Nat→Prop} {μ:Nat→Value} {w:World} {u:Value} {B:aq} {b:Nat} (h:aJ S μ w u B) (hB:B.isOwn=true) (hb:bE u b):∃cs T x, w.heap[b]?=some (.cells cs T x):=by
 cases B<;>first | (cases hB;done) | skip
 ·obtain⟨_, xs, h2, _⟩:=h
  refine l7 h2 ?_
  rcases hb with hb | ⟨us, rfl, _⟩
  ·exact hb
  ·rcases h2.2 with ⟨h2, _⟩ | ⟨_, _, _, h2, _⟩<;>cases h2
 ·obtain⟨us, rfl, h1, ⟨v0, xs, g1, g2, g3, g4⟩, h2, h3⟩:=h
  rcases hb with hb | ⟨us', he, k, x, hx, hb⟩
  ·simp[aG]at hb
  ·cases he
   cases k with
   | zero=>rw[g1]at hx;cases hx;exact l7 g3 hb
   | succ k=>obtain⟨_, _, xs, h, _⟩:=h2 k x hx;exact l7 h hb
section
variable {C:lC} {S:Nat→Prop} {μ:Nat→Value} {st:St} {a:Act} {w:World}
theorem aX.addBoxA (h:aX C S μ st a w) (hf:bN st.heap.length st.env=true) (hh:bx st.heap.length st.heap=true) {B:aq} {u:Value} (hA2:B.isOwn=true) {μ1:Nat→Value} (hbox:aJ S μ1 w u B)
  (hnew:∀b, bE u b→C.W.heap.size≤b∧¬S b∧∀(i:Nat) (A:aq), st.heap[i]?=some A→A.live=true→¬bE (μ i) b):aX C S (aV μ st.heap.length u) ⟨st.env, st.heap++[B]⟩ a w:=by
 have hother:∀i, i<st.heap.length→aV μ st.heap.length u i=μ i:=fun i hi=>aF _ _ (by omega)
 have get:∀(i:Nat) (A:aq), (st.heap++[B])[i]?=some A→(i<st.heap.length∧st.heap[i]?=some A)∨(i=st.heap.length∧A=B):=by
  intro i A hA
  by_cases hi:i<st.heap.length
  ·rw[List.getElem?_append_left hi]at hA
   exact .inl ⟨hi, hA⟩
  ·rw[List.getElem?_append_right (by omega)]at hA
   by_cases e:i-st.heap.length=0
   ·rw[e]at hA
    simp at hA
    exact .inr ⟨by omega, hA.symm⟩
   ·obtain⟨k, hk⟩:∃k, i-st.heap.length=k+1:=⟨i-st.heap.length-1, by omega⟩
    rw[hk]at hA
    simp at hA
 refine⟨h.os, h.tape, h.output, h.size, h.old, h.mono, h.new, h.slt, ?_, ⟨?_, ?_, ?_⟩, ?_, ?_, h.tsize, ?_⟩
 ·intro t d hm
  obtain⟨q1, q2⟩:=h.env t d hm
  exact⟨q1, q2.stable (fun _ h _=>h) (fun _ _ _=>rfl) (Nat.le_refl _) (fun id hid=>aF _ _ (fun e=>by rw[e, b5 hf hm]at hid;cases hid))⟩
 ·intro i A hA
  rcases get i A hA with ⟨hi, hA⟩ | ⟨rfl, rfl⟩
  ·rw[hother i hi]
   exact(h.heap.box i A hA).stable (fun _ h _=>h) (fun _ _ _=>rfl) (Nat.le_refl _) (fun id hid=>aF _ _ (fun e=>by rw[e, b7 hh hA]at hid;cases hid)) (fun _ _=>rfl)
  ·rw[av]
   exact hbox.arrMu hA2
 ·intro i j A A' b hA hA' la la' hb hb'
  have g1:=get i A hA
  have g2:=get j A' hA'
  clear hA hA'
  rcases g1 with ⟨hi, hA⟩ | ⟨ei, eA⟩<;>rcases g2 with ⟨hj, hA'⟩ | ⟨ej, eA'⟩
  ·rw[hother i hi]at hb;rw[hother j hj]at hb'
   exact h.heap.apart i j A A' b hA hA' la la' hb hb'
  ·rw[hother i hi]at hb;rw[ej, av]at hb'
   exact((hnew b hb').2.2 i A hA la hb).elim
  ·rw[hother j hj]at hb';rw[ei, av]at hb
   exact((hnew b hb).2.2 j A' hA' la' hb').elim
  ·rw[ei, ej]
 ·intro i A b hA la hb
  rcases get i A hA with ⟨hi, hA⟩ | ⟨rfl, rfl⟩
  ·rw[hother i hi]at hb
   exact h.heap.notS i A b hA la hb
  ·rw[av]at hb
   exact(hnew b hb).2.1
 ·intro i A b hA la hb
  rcases get i A hA with ⟨hi, hA⟩ | ⟨rfl, rfl⟩
  ·rw[hother i hi]at hb
   exact h.may i A b hA la hb
  ·rw[av]at hb
   exact(hnew b hb).1
 ·obtain⟨mk, e1, e2, e3⟩:=h.defers
  refine⟨mk, e1, e2, fun b hb=>?_⟩
  obtain⟨g1, g2, g3, g4⟩:=e3 b hb
  refine⟨g1, g2, g3, fun i A hA la hbk=>?_⟩
  rcases get i A hA with ⟨hi, hA⟩ | ⟨rfl, rfl⟩
  ·rw[hother i hi]at hbk
   exact g4 i A hA la hbk
  ·rw[av]at hbk
   obtain⟨cs, T, x, hh2⟩:=hbox.ownBlk hA2 hbk
   rw[hh2]at g1
   simp at g1
 ·intro i A b hA la hb
  rcases get i A hA with ⟨hi, hA⟩ | ⟨rfl, rfl⟩
  ·rw[hother i hi]at hb
   exact h.ro i A b hA la hb
  ·cases A<;>first | (cases hA2;done) | cases la
theorem aX.addBox (h:aX C S μ st a w) (hf:bN st.heap.length st.env=true) (hh:bx st.heap.length st.heap=true) {B:aq} {u:Value} (hfl:v9 B) {S1:Nat→Prop} {μ1:Nat→Value} (hbox:aJ S1 μ1 w u B)
  (hnew:∀b, bE u b→C.W.heap.size≤b∧¬S b∧∀(i:Nat) (A:aq), st.heap[i]?=some A→A.live=true→¬bE (μ i) b):aX C S (aV μ st.heap.length u) ⟨st.env, st.heap++[B]⟩ a w :=
 h.addBoxA hf hh (aq.isOwn_arr (wa hfl)) (μ1:=μ) (hbox.flat hfl) hnew
def xz (P:Program) (g:FuncId) (H:List aq) (ds:List D) (as:Option (List D)) (r:D) (B:aq):Prop :=
 match as with
 | none=>v9 B∧ai P g ds [] false r [B]
 | some as=>v9 B∧vA H ds as∧ai P g as [] false r [B]
theorem aX.callCoreO (h:aX C S μ st a w) {f:FuncId} {as:List D} {r:D} {B:aq} {us:Array Value} (hfl:v9 B) (hc:ai C.P f as [] false r [B]) {S1:Nat→Prop} (h1:∀b, S b→S1 b) (h2:∀b, S1 b→b<w.heap.size)
  (hus:aM S1 μ w as us) (hr:AF r=true) (hf:bN st.heap.length st.env=true) (hh:bx st.heap.length st.heap=true) {K:Value→World→Prop} (hK:∀S' μ' u w', aX C S' μ' ⟨st.env, st.heap++[B]⟩ a w'→ak S' μ' w' (r.up st.heap.length) u→K u w') :
  Calls C.P f us w (fun e w'=>∃u, e=.returned u∧K u w'):=by
 have slt:=h.slt
 refine(hc S1 μ w us h2 ⟨fun id B hB=>by simp at hB, fun i j A B b hA=>by simp at hA, fun i A b hA=>by simp at hA⟩ hus).mono ?_
 rintro e w' ⟨u, μ', S', rfl, q1, q2, q3, q4, q5, q6, q7, q8, q9, q10, q11, _⟩
 have hR:aX C S μ st a w':=h.grow q1 q2 q3 q4 (fun k hk=>q5 k hk (fun i A hA=>by simp at hA)) (fun b hb=>hb) (fun b hb=>.inl hb) (fun b hb=>Nat.lt_of_lt_of_le (slt b hb) q4)
 have hbox:=q10.box 0 B rfl
 have hl:B.live=true:=by have:=wa hfl;cases B<;>first | rfl | cases this
 refine⟨u, rfl, hK S (aV μ st.heap.length (μ' 0)) u w' (hR.addBox hf hh hfl hbox (fun b hb=>?_)) (AH q9 hr (av _ _ _))⟩
 have hnew:w.heap.size≤b:=by
  rcases q11 0 B b rfl hl hb with hb | ⟨j, A', hA', _⟩
  ·exact hb
  ·simp at hA'
 refine⟨Nat.le_trans h.size hnew, fun hS=>by have:=slt b hS;omega, fun i A hA la hbk=>?_⟩
 have:=(h.heap.box i A hA).lt la b hbk
 omega
theorem aX.callOwn (h:aX C S μ st a w) {f:FuncId} {ds:List D} {as:Option (List D)} {r:D} {B:aq} {us:Array Value} (hc:xz C.P f st.heap ds as r B) (hus:aM S μ w ds us) (hr:AF r=true)
  (hf:bN st.heap.length st.env=true) (hh:bx st.heap.length st.heap=true) {K:Value→World→Prop} (hK:∀S' μ' u w', aX C S' μ' ⟨st.env, st.heap++[B]⟩ a w'→ak S' μ' w' (r.up st.heap.length) u→K u w') :
  Calls C.P f us w (fun e w'=>∃u, e=.returned u∧K u w'):=by
 cases as with
 | none=>exact h.callCoreO hc.1 hc.2 (fun _ h=>h) h.slt hus hr hf hh hK
 | some as =>
  obtain⟨hfl, hco, hc⟩:=hc
  have slt:=h.slt
  have hSc:∀b, (S b∨∃(i:Nat) (A:aq), st.heap[i]?=some A∧A.mem=true∧bE (μ i) b)→b<w.heap.size:=by
   rintro b (hb | ⟨i, A, hA, hl, hb⟩)
   ·exact slt b hb
   ·exact(h.heap.box i A hA).lt (aq.mem_live hl) b hb
  refine h.callCoreO hfl hc (S1:=fun b=>S b∨∃(i:Nat) (A:aq), st.heap[i]?=some A∧A.mem=true∧bE (μ i) b) (fun b hb=>.inl hb) hSc ?_ hr hf hh hK
  exact np h.heap (fun b hb=>.inl hb) slt (.inl (fun i A b hA hl hb=>.inr ⟨i, A, hA, hl, hb⟩)) hco hus
def tx (P:Program) (g:FuncId) (H:List aq) (ds:List D) (as:Option (List D)) (r:D) (B:aq):Prop :=
 match as with
 | none=>ai P g ds [] false r [B]
 | some as=>vA H ds as∧ai P g as [] false r [B]
theorem aX.callDeep (h:aX C S μ st a w) {f:FuncId} {ds:List D} {as:Option (List D)} {r:D} {B:aq} {us:Array Value} (hc:tx C.P f st.heap ds as r B) (hus:aM S μ w ds us) (hr:AF r=true) (hB:B.isOwn=true) (hno:fl ds=true)
  (hf:bN st.heap.length st.env=true) (hh:bx st.heap.length st.heap=true) {K:Value→World→Prop} (hK:∀S' μ' u w', aX C S' μ' ⟨st.env, st.heap++[B]⟩ a w'→ak S' μ' w' (r.up st.heap.length) u→K u w') :
  Calls C.P f us w (fun e w'=>∃u, e=.returned u∧K u w'):=by
 obtain⟨as', hc', hus'⟩:∃as', ai C.P f as' [] false r [B]∧aM S μ w as' us:=by
  cases as with
  | none=>exact⟨ds, hc, hus⟩
  | some as=>exact⟨as, hc.2, np h.heap (fun _ h=>h) h.slt (.inr hno) hc.1 hus⟩
 have slt:=h.slt
 refine(hc' S μ w us slt ⟨fun id B hB=>by simp at hB, fun i j A B b hA=>by simp at hA, fun i A b hA=>by simp at hA⟩ hus').mono ?_
 rintro e w' ⟨u, μ', S', rfl, q1, q2, q3, q4, q5, q6, q7, q8, q9, q10, q11, _⟩
 have hR:aX C S' μ st a w':=h.grow q1 q2 q3 q4 (fun k hk=>q5 k hk (fun i A hA=>by simp at hA)) q6 q7 q8
 have hbox:=q10.box 0 B rfl
 have hl:B.live=true:=by cases B<;>first | rfl | cases hB
 refine⟨u, rfl, hK S' (aV μ st.heap.length (μ' 0)) u w' (hR.addBoxA hf hh hB hbox (fun b hb=>?_)) (AH q9 hr (av _ _ _))⟩
 have hnew:w.heap.size≤b:=by
  rcases q11 0 B b rfl hl hb with hb | ⟨j, A', hA', _⟩
  ·exact hb
  ·simp at hA'
 refine⟨Nat.le_trans h.size hnew, q10.notS 0 B b rfl hl hb, fun i A hA la hbk=>?_⟩
 have:=(h.heap.box i A hA).lt la b hbk
 omega
def E4 (j i:Nat):List (Nat×D)→Option (List (Nat×D))
 | []=>some []
 | (t, d)::r=>match E4 j i r with
  | some r'=>match d with
   | .own k=>if Nat.beq k j then some ((t, .own i)::r')else if Nat.beq k i then none else some ((t, .own k)::r')
   | d=>if D.free j d&&D.free i d then some ((t, d)::r')else none
  | none=>none
theorem y3 {j i:Nat}:∀{env env':List (Nat×D)} {t:Nat} {d':D}, E4 j i env=some env'→(t, d')∈env'→∃d, (t, d)∈env∧((d=.own j∧d'=.own i)∨(d'=d∧D.free j d=true∧D.free i d=true))
 | [], env', t, d', h, hm=>by
  simp only[E4, Option.some.injEq]at h
  subst h
  simp at hm
 | (s, e)::r, env', t, d', h, hm=>by
  unfold E4 at h
  split at h
  ·rename_i r' hr'
   have tail:(t, d')∈r'→∃d, (t, d)∈(s, e)::r∧((d=.own j∧d'=.own i)∨(d'=d∧D.free j d=true∧D.free i d=true)):=fun hm=>by
    obtain⟨d, h1, h2⟩:=y3 hr' hm
    exact⟨d, List.mem_cons_of_mem _ h1, h2⟩
   split at h
   ·rename_i k
    split at h
    ·rename_i hk
     simp only[Option.some.injEq]at h
     subst h
     rcases List.mem_cons.1 hm with hm | hm
     ·cases hm
      have:=Nat.beq_eq.mp hk
      subst this
      exact⟨_, List.mem_cons_self .., .inl ⟨rfl, rfl⟩⟩
     ·exact tail hm
    ·rename_i hk
     split at h
     ·cases h
     ·rename_i hk2
      simp only[Option.some.injEq]at h
      subst h
      rcases List.mem_cons.1 hm with hm | hm
      ·cases hm
       refine⟨_, List.mem_cons_self .., .inr ⟨rfl, ?_, ?_⟩⟩
       ·simp only[D.free];simp only[Bool.not_eq_true]at hk;rw[hk];rfl
       ·simp only[D.free];simp only[Bool.not_eq_true]at hk2;rw[hk2];rfl
      ·exact tail hm
   ·split at h
    ·rename_i hc
     simp only[Bool.and_eq_true]at hc
     simp only[Option.some.injEq]at h
     subst h
     rcases List.mem_cons.1 hm with hm | hm
     ·cases hm
      exact⟨_, List.mem_cons_self .., .inr ⟨rfl, hc.1, hc.2⟩⟩
     ·exact tail hm
    ·cases h
  ·cases h
def Cj (j i:Nat) (st:St):Option St :=
 if bx i st.heap&&bx j st.heap&&!(Nat.beq i j)&&Nat.blt i st.heap.length then
  match st.heap[j]? with
  | some (.arr E sz enc d l)=>match E4 j i st.env with
   | some env=>some ⟨env, (st.heap.set i (.arr E sz enc d l)).set j .dead⟩
   | none=>none
  | _=>none
 else none
theorem aX.move (h:aX C S μ st a w) {j i:Nat} {st':St} (hm:Cj j i st=some st'):aX C S (aV μ i (μ j)) st' a w:=by
 unfold Cj at hm
 split at hm
 ·rename_i hc
  simp only[Bool.and_eq_true, Bool.not_eq_true', Nat.blt_eq]at hc
  obtain⟨⟨⟨fi, fj⟩, hij⟩, hlt⟩:=hc
  have hij:i≠j:=fun e=>by rw[e]at hij;simp at hij
  split at hm
  ·rename_i E sz α enc d l hj
   split at hm
   ·rename_i env he
    simp only[Option.some.injEq]at hm
    subst hm
    have hjl:j<st.heap.length:=(List.getElem?_eq_some_iff.1 hj).1
    have get:∀(k:Nat) (A:aq), ((st.heap.set i (aq.arr E sz enc d l)).set j .dead)[k]?=some A→(k=j∧A=.dead)∨(k=i∧A=aq.arr E sz enc d l)∨(k≠i∧k≠j∧st.heap[k]?=some A):=by
     intro k A hA
     by_cases e1:k=j
     ·subst e1
      rw[List.getElem?_set_self (by rw[List.length_set];exact hjl)]at hA
      exact .inl ⟨rfl, by cases hA;rfl⟩
     ·rw[List.getElem?_set_ne (fun e=>e1 e.symm)]at hA
      by_cases e2:k=i
      ·subst e2
       rw[List.getElem?_set_self hlt]at hA
       exact .inr (.inl ⟨rfl, by cases hA;rfl⟩)
      ·rw[List.getElem?_set_ne (fun e=>e2 e.symm)]at hA
       exact .inr (.inr ⟨e2, e1, hA⟩)
    have hlive:(aq.arr E sz enc d l).live=true:=rfl
    have oth:∀k, k≠i→aV μ i (μ j) k=μ k:=fun k hk=>aF _ _ hk
    refine⟨h.os, h.tape, h.output, h.size, h.old, h.mono, h.new, h.slt, ?_, ⟨?_, ?_, ?_⟩, ?_, ?_, h.tsize, ?_⟩
    ·intro t d' hmem
     obtain⟨d0, h0, hd⟩:=y3 he hmem
     obtain⟨q1, q2⟩:=h.env t d0 h0
     refine⟨q1, ?_⟩
     rcases hd with ⟨rfl, rfl⟩ | ⟨rfl, g1, g2⟩
     ·generalize hu:a.tmps.getD t undef=u at q2
      cases q2
      have:=ak.own (S:=S) (μ:=aV μ i (μ j)) (w:=w) i
      rwa [av]at this
     ·exact q2.stable (fun _ h _=>h) (fun _ _ _=>rfl) (Nat.le_refl _) (fun id hid=>oth id (fun e=>by rw[e, g2]at hid;cases hid))
    ·intro k A hA
     rcases get k A hA with ⟨rfl, rfl⟩ | ⟨rfl, rfl⟩ | ⟨h1, h2, hA⟩
     ·trivial
     ·rw[av]
      exact(h.heap.box j _ hj).stable (fun _ h _=>h) (fun _ _ _=>rfl) (Nat.le_refl _) (fun id hid=>by cases hid) (fun _ _=>rfl)
     ·rw[oth k h1]
      exact(h.heap.box k A hA).stable (fun _ h _=>h) (fun _ _ _=>rfl) (Nat.le_refl _) (fun id hid=>oth id (fun e=>by rw[e, b7 fi hA]at hid;cases hid)) (fun _ _=>rfl)
    ·intro k m A A' b hA hA' la la' hb hb'
     have g1:=get k A hA
     have g2:=get m A' hA'
     clear hA hA'
     rcases g1 with ⟨rfl, rfl⟩ | ⟨rfl, rfl⟩ | ⟨h1, h2, hA⟩<;>rcases g2 with ⟨rfl, rfl⟩ | ⟨rfl, rfl⟩ | ⟨h3, h4, hA'⟩<;>first | (cases la;done) | (cases la';done) | rfl | skip
     ·rw[av]at hb;rw[oth m h3]at hb'
      exact(h4 (h.heap.apart j m _ _ b hj hA' hlive la' hb hb').symm).elim
     ·rw[av]at hb';rw[oth k h1]at hb
      exact(h2 (h.heap.apart k j _ _ b hA hj la hlive hb hb')).elim
     ·rw[oth k h1]at hb;rw[oth m h3]at hb'
      exact h.heap.apart k m A A' b hA hA' la la' hb hb'
    ·intro k A b hA la hb
     rcases get k A hA with ⟨rfl, rfl⟩ | ⟨rfl, rfl⟩ | ⟨h1, h2, hA⟩
     ·cases la
     ·rw[av]at hb;exact h.heap.notS j _ b hj hlive hb
     ·rw[oth k h1]at hb;exact h.heap.notS k A b hA la hb
    ·intro k A b hA la hb
     rcases get k A hA with ⟨rfl, rfl⟩ | ⟨rfl, rfl⟩ | ⟨h1, h2, hA⟩
     ·cases la
     ·rw[av]at hb;exact h.may j _ b hj hlive hb
     ·rw[oth k h1]at hb;exact h.may k A b hA la hb
    ·obtain⟨mk, e1, e2, e3⟩:=h.defers
     refine⟨mk, e1, e2, fun b hb=>?_⟩
     obtain⟨g1, g2, g3, g4⟩:=e3 b hb
     refine⟨g1, g2, g3, fun k A hA la hbk=>?_⟩
     rcases get k A hA with ⟨rfl, rfl⟩ | ⟨rfl, rfl⟩ | ⟨h1, h2, hA⟩
     ·cases la
     ·rw[av]at hbk;exact g4 j _ hj hlive hbk
     ·rw[oth k h1]at hbk;exact g4 k A hA la hbk
    ·intro k A b hA la hb
     rcases get k A hA with ⟨rfl, rfl⟩ | ⟨rfl, rfl⟩ | ⟨h1, h2, hA⟩
     ·cases la
     ·cases la
     ·rw[oth k h1]at hb;exact h.ro k A b hA la hb
   ·cases hm
  ·cases hm
 ·cases hm
end
end Go.Proofs.YtckgpflobhpnpaaGreat
