/- Parts of a proof. -/
import Derived.ChangeOld
import Derived.KernelRfl
import Derived.Laws.AppendOwnNone
import Derived.Laws.Bits64
import Derived.Laws.BitsAllLaws
import Derived.Laws.MakeOwn
import Derived.Laws.OwnMore
import Derived.Laws.StructEq
import Derived.Lib.Hide
import Derived.LoopNIn
import Derived.OpenShut
import Derived.OrdersIn
import Derived.ProofKit
import Derived.RangeFuncCalls
import Derived.RangeFuncRecord
import Derived.ShutString
import Derived.TacticsIn
import Derived.WalkKit
import Derived.WalkLawsBesides
import Derived.WalkSpells
import GoSem.Claim
namespace Go.Proofs.YtnlmlkbaflmgcaaGreat
open Go.RowKit
set_option linter.unusedVariables false
set_option linter.unusedSimpArgs false
theorem Uo:type_of% @Bool.and_eq_true:=@Bool.and_eq_true
theorem Up:type_of% @List.getElem?_eq_some_iff:=@List.getElem?_eq_some_iff
theorem Uq:type_of% @List.getElem?_eq_getElem:=@List.getElem?_eq_getElem
theorem Ur:type_of% @if_neg:=@if_neg
theorem Us:type_of% @List.length_replicate:=@List.length_replicate
theorem Ut:type_of% @Nat.le_refl:=@Nat.le_refl
theorem Uu:type_of% @Result.andThen_ok:=@Result.andThen_ok
theorem Uv:type_of% @Sem.run_bind:=@Sem.run_bind
theorem Uw:type_of% @if_pos:=@if_pos
theorem Ux:type_of% @Prod.mk.injEq:=@Prod.mk.injEq
theorem Uy:type_of% @decide_eq_false:=@decide_eq_false
theorem Uz:type_of% @decide_eq_true:=@decide_eq_true
theorem UA:type_of% @Option.some.injEq:=@Option.some.injEq
theorem UB:type_of% @List.length_map:=@List.length_map
theorem UC:type_of% @Array.getElem?_eq_some_iff:=@Array.getElem?_eq_some_iff
theorem UD:type_of% @List.getElem?_append_left:=@List.getElem?_append_left
theorem UE:type_of% @List.getElem?_append_right:=@List.getElem?_append_right
theorem UF:type_of% @List.getElem?_set_ne:=@List.getElem?_set_ne
theorem UG:type_of% @List.length_take:=@List.length_take
theorem UH:type_of% @Nat.beq_eq:=@Nat.beq_eq
theorem UI:type_of% @List.getElem?_set_self:=@List.getElem?_set_self
theorem UJ:type_of% @List.getElem?_map:=@List.getElem?_map
theorem UK:type_of% @List.length_append:=@List.length_append
theorem UL:type_of% @Sem.run_pure:=@Sem.run_pure
theorem UM:type_of% @Array.getElem?_eq_getElem:=@Array.getElem?_eq_getElem
theorem UN:type_of% @List.eq_of_mem_replicate:=@List.eq_of_mem_replicate
theorem UO:type_of% @Nat.mul_le_mul_right:=@Nat.mul_le_mul_right
theorem UP:type_of% @List.getElem?_take:=@List.getElem?_take
theorem UQ:type_of% @List.length_set:=@List.length_set
theorem UR:type_of% @List.length_nil:=@List.length_nil
theorem US:type_of% @List.map_set:=@List.map_set
theorem UT:type_of% @List.mem_cons_of_mem:=@List.mem_cons_of_mem
theorem UU:type_of% @List.all_eq_true:=@List.all_eq_true
theorem UV:type_of% @List.mem_of_getElem?:=@List.mem_of_getElem?
theorem UW:type_of% @List.length_drop:=@List.length_drop
theorem UX:type_of% @List.mem_cons_self:=@List.mem_cons_self
theorem UY:type_of% @Array.getElem?_toList:=@Array.getElem?_toList
theorem UZ:type_of% @run_underlying:=@run_underlying
theorem U0:type_of% @List.eq_nil_of_length_eq_zero:=@List.eq_nil_of_length_eq_zero
theorem U1:type_of% @List.getElem?_eq_none:=@List.getElem?_eq_none
theorem U2:type_of% @Bool.not_eq_true':=@Bool.not_eq_true'
theorem U3:type_of% @Bool.or_eq_true:=@Bool.or_eq_true
theorem U4:type_of% @Option.map_some:=@Option.map_some
theorem U5:type_of% @Nat.zero_add:=@Nat.zero_add
theorem U6:type_of% @Nat.le_trans:=@Nat.le_trans
theorem U7:type_of% @Bool.and_false:=@Bool.and_false
theorem U8:type_of% @decide_eq_true_eq:=@decide_eq_true_eq
theorem U9:type_of% @List.take_length:=@List.take_length
theorem Va:type_of% @List.mem_range:=@List.mem_range
theorem Vb:type_of% @Array.getD_eq_getD_getElem?:=@Array.getD_eq_getD_getElem?
theorem Vc:type_of% @List.map_append:=@List.map_append
theorem Vd:type_of% @Int.toNat_natCast:=@Int.toNat_natCast
theorem Ve:type_of% @List.length_cons:=@List.length_cons
theorem Vf:type_of% @List.append_assoc:=@List.append_assoc
theorem Vg:type_of% @Int.eq_ofNat_of_zero_le:=@Int.eq_ofNat_of_zero_le
theorem Vh:type_of% @List.mem_cons:=@List.mem_cons
theorem Vi:type_of% @Bool.false_eq_true:=@Bool.false_eq_true
theorem Vj:type_of% @List.getD_eq_getElem?_getD:=@List.getD_eq_getElem?_getD
theorem Vk:type_of% @Array.getElem?_setIfInBounds_ne:=@Array.getElem?_setIfInBounds_ne
theorem Vl:type_of% @Nat.lt_of_lt_of_le:=@Nat.lt_of_lt_of_le
theorem Vm:type_of% @List.cons.injEq:=@List.cons.injEq
theorem Vn:type_of% @List.map_cons:=@List.map_cons
theorem Vo:type_of% @Int.tmod_eq_emod_of_nonneg:=@Int.tmod_eq_emod_of_nonneg
theorem Vp:type_of% @List.mem_append:=@List.mem_append
theorem Vq:type_of% @List.append_nil:=@List.append_nil
theorem Vr:type_of% @Decidable.byContradiction:=@Decidable.byContradiction
theorem Vs:type_of% @Nat.zero_le:=@Nat.zero_le
theorem Vt:type_of% @List.ext_getElem:=@List.ext_getElem
theorem Vu:type_of% @Bool.eq_false_iff:=@Bool.eq_false_iff
theorem Vv:type_of% @Nat.ble_eq:=@Nat.ble_eq
theorem Vw:type_of% @Nat.succ_mul:=@Nat.succ_mul
theorem Vx:type_of% @heap_alloc_new:=@heap_alloc_new
theorem Vy:type_of% @List.foldl_append:=@List.foldl_append
theorem Vz:type_of% @decide_eq_false_iff_not:=@decide_eq_false_iff_not
theorem VA:type_of% @Array.getElem?_map:=@Array.getElem?_map
theorem VB:type_of% @List.getElem?_drop:=@List.getElem?_drop
theorem VC:type_of% @Int.emod_nonneg:=@Int.emod_nonneg
theorem VD:type_of% @Below.heap_alloc:=@Below.heap_alloc
theorem VE:type_of% @World.grownBy_alloc:=@World.grownBy_alloc
theorem VF:type_of% @of_decide_eq_true:=@of_decide_eq_true
theorem VG:type_of% @Bool.and_eq_false_iff:=@Bool.and_eq_false_iff
theorem VH:type_of% @List.mem_singleton:=@List.mem_singleton
theorem VI:type_of% @Int.emod_lt_of_pos:=@Int.emod_lt_of_pos
theorem VJ:type_of% @Nat.pow_le_pow_right:=@Nat.pow_le_pow_right
theorem VK:type_of% @List.take_succ_eq_append_getElem:=@List.take_succ_eq_append_getElem
theorem VL:type_of% @List.map_nil:=@List.map_nil
theorem VM:type_of% @Nat.add_zero:=@Nat.add_zero
theorem VN:type_of% @Nat.not_lt_zero:=@Nat.not_lt_zero
theorem VO:type_of% @List.set_eq_of_length_le:=@List.set_eq_of_length_le
theorem VP:type_of% @List.mem_append_left:=@List.mem_append_left
theorem VQ:type_of% @World.putObj_heap_other:=@World.putObj_heap_other
theorem VR:type_of% @List.getElem?_replicate:=@List.getElem?_replicate
theorem VS:type_of% @World.ownsRow_nil:=@World.ownsRow_nil
theorem VT:type_of% @List.getElem_of_mem:=@List.getElem_of_mem
theorem VU:type_of% @Array.length_toList:=@Array.length_toList
theorem VV:type_of% @List.take_of_length_le:=@List.take_of_length_le
theorem VW:type_of% @Int.tdiv_eq_ediv_of_nonneg:=@Int.tdiv_eq_ediv_of_nonneg
theorem VX:type_of% @List.map_toArray:=@List.map_toArray
theorem VY:type_of% @List.any_eq_true:=@List.any_eq_true
theorem VZ:type_of% @Option.bind_some:=@Option.bind_some
theorem V0:type_of% @List.getElem_mem:=@List.getElem_mem
theorem V1:type_of% @List.mem_append_right:=@List.mem_append_right
theorem V2:type_of% @if_false:=@if_false
theorem V3:type_of% @ByteArray.size_append:=@ByteArray.size_append
theorem V4:type_of% @List.drop_eq_getElem_cons:=@List.drop_eq_getElem_cons
theorem V5:type_of% @if_true:=@if_true
theorem V6:type_of% @List.nil_append:=@List.nil_append
theorem V7:type_of% @Array.ext':=@Array.ext'
theorem V8:type_of% @Oper.upon_enter:=@Oper.upon_enter
theorem V9:type_of% @Nat.mul_le_mul_left:=@Nat.mul_le_mul_left
theorem Wa:type_of% @Nat.add_sub_cancel_left:=@Nat.add_sub_cancel_left
theorem Wb:type_of% @List.map_congr_left:=@List.map_congr_left
theorem Wc:type_of% @Bool.not_eq_true:=@Bool.not_eq_true
theorem Wd:type_of% @ByteArray.size_extract:=@ByteArray.size_extract
theorem We:type_of% @List.all_cons:=@List.all_cons
theorem Wf:type_of% @List.getElem?_set:=@List.getElem?_set
theorem Wg:type_of% @World.putObj_size:=@World.putObj_size
theorem Wh:type_of% @List.size_toArray:=@List.size_toArray
theorem Wi:type_of% @World.cell?_of_block:=@World.cell?_of_block
theorem Wj:type_of% @List.getElem_map:=@List.getElem_map
theorem Wk:type_of% @Option.getD_some:=@Option.getD_some
theorem Wl:type_of% @List.take_succ_cons:=@List.take_succ_cons
theorem Wm:type_of% @Below.refl:=@Below.refl
theorem Wn:type_of% @List.map_map:=@List.map_map
theorem Wo:type_of% @Bool.and_true:=@Bool.and_true
theorem Wp:type_of% @List.mem_filter:=@List.mem_filter
theorem Wq:type_of% @List.range_succ:=@List.range_succ
theorem Wr:type_of% @Nat.lt_irrefl:=@Nat.lt_irrefl
theorem Ws:type_of% @Nat.blt_eq:=@Nat.blt_eq
theorem Wt:type_of% @List.take_left:=@List.take_left
theorem Wu:type_of% @and_true:=@and_true
theorem Wv:type_of% @Bool.false_and:=@Bool.false_and
theorem Ww:type_of% @Bool.true_and:=@Bool.true_and
theorem Wx:type_of% @Ne.symm:=@Ne.symm
theorem Wy:type_of% @Nat.add_mul:=@Nat.add_mul
def kD (F:(Nat→Prop)→Value→World→Prop):Prop :=
  ∀(S S':Nat→Prop) (v:Value) (w w':World),F S v w→(∀b,S b→b<w.heap.size→S' b) →
    (∀b,S b→b<w.heap.size→w'.heap[b]?=w.heap[b]?)→w.heap.size≤w'.heap.size→F S' v w'
def qa (P:Program) (R:Value→World→Prop):Result Next→Prop
  | .ok (.value v) w'=>R v w'
  | .ok .skip w'=>R undef w'
  | .ok (.enter f args) w'=>Calls P f args w' (fun e w''=>∃v,e=.returned v∧R v w'')
  | _=>False
theorem qa.upon {P:Program} {R:Value→World→Prop} {o:Oper} {a:Act} {next:Act→World→Prop} {Q:Exit→Act→World→Prop} {r:Result Next}
    (h:qa P R r) (hn:∀v w',R v w'→next (a.put o.dst v) w'):o.upon P a next Q r:=by
  cases r with
  | ok n w' =>
    cases n<;>simp only[qa]at h
    case value v=>exact hn _ _ h
    case skip=>exact hn _ _ h
    case enter f args =>
      refine h.mono ?_
      rintro e w'' ⟨v,rfl,hr⟩
      exact hn _ _ hr
  | halt x w'=>simp only[qa]at h
theorem qa.ok {P:Program} {R:Value→World→Prop} {v:Value} {w':World} (h:R v w'):qa P R (.ok (.value v) w'):=h
theorem qa.enter {P:Program} {R:Value→World→Prop} {f:FuncId} {args:Array Value} {w':World} (h:Calls P f args w' (fun e w''=>∃v,e=.returned v∧R v w'')):qa P R (.ok (.enter f args) w'):=h
theorem qa.of {P:Program} {R:Value→World→Prop} {r:Result Next} {v:Value} {w':World} (h:r=.ok (.value v) w') (hR:R v w'):qa P R r:=by
  rw[h];exact hR
attribute [irreducible] qa
inductive uu where
  | grow
  | skip
  | alloc (T:TypeId) (zero:Array Value)
  | fill (j:Nat)
def uu.isAlloc:uu→Bool | .alloc _ _=>true | _=>false
def uu.who:uu→Nat→Nat | .fill j,_=>j | _,i=>i
structure uv where
  K:Nat→uu
  F:Nat→(Nat→Prop)→Value→World→Prop
  ins:Nat→List (Tmp×Option Nat)
section
variable (P:Program) (ops:Array Oper) (sp:uv) (base:Act) (w0:World)
def Ew (i j:Nat):Bool:=match ops[i]? with | some o=>o.after.any (fun e=>Region.binds .any e&&e.on==j) | none=>false
def yY:Nat→Nat→Nat→Bool
  | 0,i,j=>Ew ops i j
  | f+1,i,j=>Ew ops i j||(match ops[i]? with | some o=>o.after.any (fun e=>Nat.blt j e.on&&Region.binds .any e&&yY f e.on j) | none=>false)
abbrev ef (i j:Nat):Bool:=yY ops 12 i j
def jX (i:Nat):Option Tmp:=(ops[i]?).bind (·.dst)
def lJ (i:Nat) (j:Option Nat) (t:Tmp):Bool :=
  (List.range ops.size).all fun k=>jX ops k != some t||k==i||some k==j||ef ops k i||(match j with | some j=>ef ops j k | none=>false)
def PI (i:Nat) (p:Tmp×Option Nat):Bool :=
  match p.2 with
  | none=>lJ ops i none p.1
  | some k=>match sp.K k with
    | .fill j=>jX ops j==some p.1&&ef ops i j&&ef ops i k&&lJ ops i (some j) p.1
    | .alloc _ _=>false
    | _=>jX ops k==some p.1&&ef ops i k&&lJ ops i (some k) p.1
def H4 (i:Nat):Bool :=
  (match ops[i]? with
   | some o=>o.after.all (fun e=>!Region.binds .any e||decide (e.on<i)) &&
      (match o.dst with
       | some t=>decide (t<base.tmps.size)&&(List.range i).all (fun k=>jX ops k != some t||ef ops i k)
       | none=>true) &&
      (match o.guard with
       | some (g,_)=>ef ops i g&&(match jX ops g with | some t=>lJ ops i (some g) t | none=>false)&&(match sp.K g with | .alloc _ _=>false | .fill _=>false | _=>true)
       | none=>true)
   | none=>true) &&
  (sp.ins i).all (PI ops sp i) &&
  (match sp.K i with
   | .fill j=>ef ops i j&&(match jX ops j with | some t=>lJ ops i (some j) t | none=>false)&&(sp.K j).isAlloc&&(jX ops i==none) &&
      (List.range ops.size).all (fun k=>k==i||(match sp.K k with | .fill j'=>j' != j | _=>true))
   | .skip=>true
   | _=>true)
def NN:Bool:=(List.range ops.size).all (H4 ops sp base)
def kR (ρ:Operand→Value) (S:Nat→Prop) (w:World):List (Tmp×Option Nat)→Prop
  | []=>True
  | (t,none)::r=>ρ (.tmp t)=base.tmps.getD t undef∧kR ρ S w r
  | (t,some k)::r=>sp.F k S (ρ (.tmp t)) w∧kR ρ S w r
structure tb (b:Nat) (w w':World):Prop where
  os:w'.os=w.os
  tape:w'.tape=w.tape
  output:w'.output=w.output
  size:w'.heap.size=w.heap.size
  block:∀k,k≠b→w'.heap[k]?=w.heap[k]?
def fD (o:Oper):Prop:=∀g XA,o.guard=some (g,XA)→∀S v w,sp.F g S v w→v=.bool XA
def vb (o:Oper):Prop:=∃g XA,o.guard=some (g,XA)∧∀S v w,sp.F g S v w→v=.bool (!XA)∨v=undef
structure yZ (ρ:Operand→Value):Prop where
  const:∀v,ρ (.const v)=v
  func:∀f,ρ (.func f)=.func (.func f) #[] #[]
  global:∀g,ρ (.global g)=.pointer (some ⟨g,0,none⟩)
def rB (i:Nat) (o:Oper):Prop :=
  match sp.K i with
  | .grow=>fD sp o∧∀ρ S w,yZ ρ→Below w0.heap.size w0 w→(∀b,b<w0.heap.size→S b)→kR sp base ρ S w (sp.ins i) →
      qa P (fun v w'=>Below w.heap.size w w'∧sp.F i (fun b=>S b∨w.heap.size≤b) v w') ((execOp ρ o).run P w)
  | .skip=>vb sp o∧∀S w,sp.F i S undef w
  | .alloc T z=>fD sp o∧∀ρ w,(execOp ρ o).run P w=.ok (.value (.pointer (some ⟨w.heap.size,0,none⟩))) (w.alloc (.cells z T))
  | .fill j=>fD sp o∧∀T z t ρ S w b,sp.K j=.alloc T z→jX ops j=some t→yZ ρ→Below w0.heap.size w0 w→(∀b,b<w0.heap.size→S b)→kR sp base ρ S w (sp.ins i) →
      ρ (.tmp t)=.pointer (some ⟨b,0,none⟩)→w.heap[b]?=some (.cells z T)→¬S b →
      ∃w',(execOp ρ o).run P w=.ok .skip w'∧tb b w w'∧sp.F i (fun x=>S x∨x=b) (.pointer (some ⟨b,0,none⟩)) w'
structure nk (C':Array Bool) (env:Nat→Value) (a:Act):Prop where
  lsize:C'.size=ops.size
  closed:∀i o,C'.getD i false=true→ops[i]?=some o→∀e∈o.after,Region.binds .any e=true→C'.getD e.on false=true
  defers:a.defers=base.defers
  tsize:a.tmps.size=base.tmps.size
  slots:∀t,(∀k,C'.getD k false=true→jX ops k≠some t)→a.tmps[t]?=base.tmps[t]?
  vals:∀j t,C'.getD j false=true→jX ops j=some t→(∀k,C'.getD k false=true→jX ops k=some t→k≠j→ef ops j k=true)→a.tmps[t]?=some (env j)
structure y7 (C':Array Bool) (env:Nat→Value) (S:Nat→Prop) (w:World):Prop where
  below:Below w0.heap.size w0 w
  sbase:∀b,b<w0.heap.size→S b
  slt:∀b,S b→b<w.heap.size
  facts:∀j,C'.getD j false=true→(sp.K j).isAlloc=false→sp.F j S (env ((sp.K j).who j)) w
  priv:∀j T z,C'.getD j false=true→sp.K j=.alloc T z→(∀k,C'.getD k false=true→sp.K k≠.fill j) →
    ∃b,env j=.pointer (some ⟨b,0,none⟩)∧¬S b∧w.heap[b]?=some (.cells z T)
  ptrs:∀j T z,C'.getD j false=true→sp.K j=.alloc T z→∃b,env j=.pointer (some ⟨b,0,none⟩)∧w0.heap.size≤b∧b<w.heap.size
  apart:∀j j' T z T' z' b,C'.getD j false=true→C'.getD j' false=true→sp.K j=.alloc T z→sp.K j'=.alloc T' z'→env j=.pointer (some ⟨b,0,none⟩)→env j'=.pointer (some ⟨b,0,none⟩)→j=j'
end
section
variable {P:Program} {ops:Array Oper} {sp:uv} {base:Act} {w0:World}
theorem bj (l:Array Bool) (i k:Nat) (hi:i<l.size):(l.setIfInBounds i true).getD k false=(if k=i then true else l.getD k false):=by
  by_cases h:k=i
  · subst h;simp[hi]
  · rw[Ur h]
    simp only[Vb]
    rw[Vk (fun e=>h e.symm)]
theorem rD {C':Array Bool} {i j:Nat} (hc:∀o,ops[i]?=some o→∀e∈o.after,Region.binds .any e=true→C'.getD e.on false=true)
    (h:Ew ops i j=true):C'.getD j false=true:=by
  unfold Ew at h
  split at h
  · rename_i o ho
    simp only[Array.any_eq_true',Uo,beq_iff_eq]at h
    obtain⟨e,he,hb,rfl⟩:=h
    exact hc o ho e he hb
  · cases h
theorem ia {C':Array Bool} (hcl:∀i o,C'.getD i false=true→ops[i]?=some o→∀e∈o.after,Region.binds .any e=true→C'.getD e.on false=true) :
    ∀(f i j:Nat),(∀o,ops[i]?=some o→∀e∈o.after,Region.binds .any e=true→C'.getD e.on false=true)→yY ops f i j=true→C'.getD j false=true:=by
  intro f
  induction f with
  | zero=>intro i j hc h;exact rD hc h
  | succ f ih =>
    intro i j hc h
    simp only[yY,U3]at h
    rcases h with h | h
    · exact rD hc h
    · split at h
      · rename_i o ho
        simp only[Array.any_eq_true',Uo]at h
        obtain⟨e,he,⟨_,hb⟩,h⟩:=h
        exact ih e.on j (fun o' Yh=>hcl e.on o' (hc o ho e he hb) Yh) h
      · cases h
structure K6 (ops:Array Oper) (sp:uv) (base:Act):Prop where
  top:∀i o,ops[i]?=some o→∀e∈o.after,Region.binds .any e=true→e.on<i
  writes:∀i t,jX ops i=some t→t<base.tmps.size∧∀k,k<i→jX ops k=some t→ef ops i k=true
  guard:∀i o g XA,ops[i]?=some o→o.guard=some (g,XA)→ef ops i g=true∧(sp.K g).isAlloc=false∧(sp.K g).who g=g∧∃t,jX ops g=some t∧lJ ops i (some g) t=true
  ins:∀i,i<ops.size→∀p∈sp.ins i,PI ops sp i p=true
  fill:∀i j,i<ops.size→sp.K i=.fill j→ef ops i j=true∧(∃t,jX ops j=some t∧lJ ops i (some j) t=true)∧(sp.K j).isAlloc=true∧jX ops i=none∧∀k,k<ops.size→sp.K k=.fill j→k=i
theorem AV (h:NN ops sp base=true):K6 ops sp base:=by
  unfold NN at h
  simp only[UU,Va]at h
  have lt:∀i o,ops[i]?=some o→i<ops.size:=fun i o ho=>(UC.1 ho).1
  refine⟨?_,?_,?_,?_,?_⟩
  · intro i o ho e he hb
    have:=h i (lt i o ho)
    unfold H4 at this
    simp only[ho,Uo,Array.all_eq_true',U3,U2,U8]at this
    have h2:=this.1.1.1.1 e he
    rcases h2 with h2 | h2
    · rw[hb]at h2;cases h2
    · exact h2
  · intro i t ht
    unfold jX at ht
    cases ho:ops[i]? with
    | none=>rw[ho]at ht;cases ht
    | some o =>
      rw[ho]at ht
      simp only[VZ]at ht
      have:=h i (lt i o ho)
      unfold H4 at this
      simp only[ho,ht,Uo,U8,UU,Va,U3,bne_iff_ne]at this
      refine⟨this.1.1.1.2.1,fun k hk hkt=>?_⟩
      have h2:=this.1.1.1.2.2 k hk
      exact h2.resolve_left (fun Xt=>Xt hkt)
  · intro i o g XA ho hg
    have:=h i (lt i o ho)
    unfold H4 at this
    simp only[ho,hg,Uo]at this
    obtain⟨⟨h1,h2⟩,h3⟩:=this.1.1.2
    refine⟨h1,?_,?_,?_⟩
    · cases hk:sp.K g<;>simp[hk,uu.isAlloc]at h3 ⊢
    · cases hk:sp.K g<;>simp[hk,uu.who]at h3 ⊢
    · cases ht:jX ops g with
      | none=>simp[ht]at h2
      | some t=>exact⟨t,rfl,by simpa[ht]using h2⟩
  · intro i hi p hp
    have:=h i hi
    unfold H4 at this
    simp only[Uo,UU]at this
    exact this.1.2 p hp
  · intro i j hi hk
    have:=h i hi
    unfold H4 at this
    simp only[hk,Uo,UU,Va,U3,beq_iff_eq]at this
    obtain⟨⟨⟨⟨h1,h2⟩,h3⟩,h4⟩,h5⟩:=this.2
    refine⟨h1,?_,h3,h4,fun k Xr Za=>?_⟩
    · cases ht:jX ops j with
      | none=>simp[ht]at h2
      | some t=>exact⟨t,rfl,by simpa[ht]using h2⟩
    · rcases h5 k Xr with h6 | h6
      · exact h6
      · rw[Za]at h6;simp at h6
theorem xA (a:Act) (d:Option Tmp) (v:Value) (t:Tmp) (h:d≠some t):(a.put d v).tmps[t]?=a.tmps[t]?:=by
  cases d with
  | none=>rfl
  | some d=>exact Vk (fun e=>h (by rw[e]))
theorem H5 (a:Act) (v:Value) (t:Tmp) (h:t<a.tmps.size):(a.put (some t) v).tmps[t]?=some v:=by
  simp[Act.put,h]
theorem H6 (a:Act) (d:Option Tmp) (v:Value):(a.put d v).tmps.size=a.tmps.size:=by
  cases d<;>simp[Act.put]
theorem AW (a:Act) (d:Option Tmp) (v:Value):(a.put d v).defers=a.defers:=by
  cases d<;>rfl
theorem nk.step (XG:K6 ops sp base) {C':Array Bool} {env:Nat→Value} {a:Act} (hF:nk ops base C' env a) {i:Nat} {o:Oper} (hi:ops[i]?=some o)
    (Xo:C'.getD i false=false) (hr:∀e∈o.after,Region.binds .any e=true→C'.getD e.on false=true) (v:Value) :
    nk ops base (C'.setIfInBounds i true) (fun k=>if k=i then v else env k) (a.put o.dst v):=by
  have WL:i<C'.size:=by rw[hF.lsize];exact(UC.1 hi).1
  have hd:jX ops i=o.dst:=by simp[jX,hi]
  refine⟨by simpa using hF.lsize,?_,by rw[AW];exact hF.defers,by rw[H6];exact hF.tsize,?_,?_⟩
  · intro k ok hk hok' e he hb
    rw[bj _ _ _ WL]at hk ⊢
    split
    · rfl
    · by_cases XM:k=i
      · subst XM
        rw[hi]at hok'
        cases hok'
        exact hr e he hb
      · rw[Ur XM]at hk
        exact hF.closed k ok hk hok' e he hb
  · intro t ht
    have h1:o.dst≠some t:=by
      have:=ht i (by rw[bj _ _ _ WL,Uw rfl])
      rwa [hd]at this
    rw[xA _ _ _ _ h1]
    refine hF.slots t (fun k hk=>ht k ?_)
    rw[bj _ _ _ WL]
    split
    · rfl
    · exact hk
  · intro j t hj hjt hw
    by_cases Xi:j=i
    · subst Xi
      rw[hd]at hjt
      simp only[V5,hjt]
      refine H5 _ _ _ ?_
      rw[hF.tsize]
      exact(XG.writes j t (by rw[hd];exact hjt)).1
    · rw[bj _ _ _ WL,Ur Xi]at hj
      have h1:o.dst≠some t:=by
        intro h1
        have hb:=hw i (by rw[bj _ _ _ WL,Uw rfl]) (by rw[hd];exact h1) (fun e=>Xi e.symm)
        have:=ia hF.closed 12 j i (fun oj hoj=>hF.closed j oj hj hoj) hb
        rw[Xo]at this
        cases this
      rw[xA _ _ _ _ h1]
      simp only[Ur Xi]
      refine hF.vals j t hj hjt (fun k hk hkt hkj=>hw k ?_ hkt hkj)
      rw[bj _ _ _ WL]
      split
      · rfl
      · exact hk
theorem CV (XG:K6 ops sp base) {C':Array Bool} {env:Nat→Value} {a:Act} (hF:nk ops base C' env a) {i k:Nat} (Xo:C'.getD i false=false) (hk:C'.getD k false=true):(sp.K k).who k≠i:=by
  have XM:k≠i:=by rintro rfl;rw[Xo]at hk;cases hk
  cases Za:sp.K k with
  | fill j =>
    simp only[uu.who]
    rintro rfl
    have WL:k<ops.size:=by
      rw[← hF.lsize]
      refine Vr fun hn=>?_
      simp[Array.getD,hn]at hk
    have hb:=(XG.fill k j WL Za).1
    have:=ia hF.closed 12 k j (fun o' Yh=>hF.closed k o' hk Yh) hb
    rw[Xo]at this;cases this
  | grow=>exact XM
  | skip=>exact XM
  | alloc T z=>exact XM
theorem y7.grow (XG:K6 ops sp base) (Xv:∀j,kD (sp.F j)) {C':Array Bool} {env:Nat→Value} {S:Nat→Prop} {a:Act} {w w':World} (hF:nk ops base C' env a) (hM:y7 sp w0 C' env S w) {i:Nat}
    (WL:i<C'.size) (Xo:C'.getD i false=false) (hk:sp.K i=.grow∨sp.K i=.skip) {v:Value} (hb:Below w.heap.size w w') (hf:sp.F i (fun b=>S b∨w.heap.size≤b) v w') :
    y7 sp w0 (C'.setIfInBounds i true) (fun k=>if k=i then v else env k) (fun b=>S b∨(w.heap.size≤b∧b<w'.heap.size)) w':=by
  have hwi:(sp.K i).who i=i:=by rcases hk with hk | hk<;>rw[hk]<;>rfl
  have hna:∀T z,sp.K i≠.alloc T z:=by rcases hk with hk | hk<;>rw[hk]<;>simp
  have hN:=hM.below.size
  refine⟨hM.below.trans (hb.mono hN),fun b h=>.inl (hM.sbase b h),?_,?_,?_,?_,?_⟩
  · rintro b (h | h)
    · exact Vl (hM.slt b h) hb.size
    · exact h.2
  · intro j hj Xm
    by_cases Xi:j=i
    · subst Xi
      rw[hwi]
      simp only[V5]
      exact Xv j _ _ _ _ _ hf (fun b h hl=>h.imp id (fun h=>⟨h,hl⟩)) (fun _ _ _=>rfl) (Ut _)
    · rw[bj _ _ _ WL,Ur Xi]at hj
      rw[Ur (CV XG hF Xo hj)]
      exact Xv j _ _ _ _ _ (hM.facts j hj Xm) (fun b h _=>.inl h) (fun b _ h=>hb.block b h) hb.size
  · intro j T z hj Xr ZB
    by_cases Xi:j=i
    · subst Xi;exact absurd Xr (hna _ _)
    · rw[bj _ _ _ WL,Ur Xi]at hj
      obtain⟨b,h1,h2,h3⟩:=hM.priv j T z hj Xr (fun k hk=>ZB k (by rw[bj _ _ _ WL];split<;>first | rfl | exact hk))
      have hbl:b<w.heap.size:=(UC.1 h3).1
      refine⟨b,by rw[Ur Xi];exact h1,?_,by rw[hb.block b hbl];exact h3⟩
      rintro(h | h)
      · exact h2 h
      · omega
  · intro j T z hj Xr
    by_cases Xi:j=i
    · subst Xi;exact absurd Xr (hna _ _)
    · rw[bj _ _ _ WL,Ur Xi]at hj
      obtain⟨b,h1,h2,h3⟩:=hM.ptrs j T z hj Xr
      exact⟨b,by rw[Ur Xi];exact h1,h2,Vl h3 hb.size⟩
  · intro j j' T z T' z' b hj Z4 Zd Ys h1 h2
    have Xi:j≠i:=by rintro rfl;exact hna _ _ Zd
    have Ym:j'≠i:=by rintro rfl;exact hna _ _ Ys
    rw[bj _ _ _ WL,Ur Xi]at hj
    rw[bj _ _ _ WL,Ur Ym]at Z4
    rw[Ur Xi]at h1
    rw[Ur Ym]at h2
    exact hM.apart j j' T z T' z' b hj Z4 Zd Ys h1 h2
theorem y7.alloc (XG:K6 ops sp base) (Xv:∀j,kD (sp.F j)) {C':Array Bool} {env:Nat→Value} {S:Nat→Prop} {a:Act} {w:World} (hF:nk ops base C' env a) (hM:y7 sp w0 C' env S w) {i:Nat}
    (WL:i<C'.size) (Xo:C'.getD i false=false) {T:TypeId} {z:Array Value} (hk:sp.K i=.alloc T z) :
    y7 sp w0 (C'.setIfInBounds i true) (fun k=>if k=i then .pointer (some ⟨w.heap.size,0,none⟩)else env k) S (w.alloc (.cells z T)):=by
  have hN:=hM.below.size
  have WE:(w.alloc (.cells z T)).heap.size=w.heap.size+1:=by simp
  refine⟨hM.below.alloc hN _,hM.sbase,fun b h=>by have:=hM.slt b h;omega,?_,?_,?_,?_⟩
  · intro j hj Xm
    by_cases Xi:j=i
    · subst Xi;rw[hk]at Xm;cases Xm
    · rw[bj _ _ _ WL,Ur Xi]at hj
      rw[Ur (CV XG hF Xo hj)]
      exact Xv j _ _ _ _ _ (hM.facts j hj Xm) (fun b h _=>h) (fun b _ h=>VD w _ b h) (by omega)
  · intro j T' z' hj Xr ZB
    by_cases Xi:j=i
    · subst Xi
      rw[hk]at Xr
      cases Xr
      exact⟨w.heap.size,by simp,fun h=>by have:=hM.slt _ h;omega,Vx w _⟩
    · rw[bj _ _ _ WL,Ur Xi]at hj
      obtain⟨b,h1,h2,h3⟩:=hM.priv j T' z' hj Xr (fun k hk=>ZB k (by rw[bj _ _ _ WL];split<;>first | rfl | exact hk))
      have hbl:b<w.heap.size:=(UC.1 h3).1
      exact⟨b,by rw[Ur Xi];exact h1,h2,by rw[VD w _ b hbl];exact h3⟩
  · intro j T' z' hj Xr
    by_cases Xi:j=i
    · subst Xi
      exact⟨w.heap.size,by simp,hN,by omega⟩
    · rw[bj _ _ _ WL,Ur Xi]at hj
      obtain⟨b,h1,h2,h3⟩:=hM.ptrs j T' z' hj Xr
      exact⟨b,by rw[Ur Xi];exact h1,h2,by omega⟩
  · intro j j' T1 z1 T' z' b hj Z4 Zd Ys h1 h2
    have old:∀k T2 z2,k≠i→(C'.setIfInBounds i true).getD k false=true→sp.K k=.alloc T2 z2→env k=.pointer (some ⟨b,0,none⟩)→b<w.heap.size:=by
      intro k T2 z2 XM XL Za he
      rw[bj _ _ _ WL,Ur XM]at XL
      obtain⟨b',h1,h2,h3⟩:=hM.ptrs k T2 z2 XL Za
      rw[h1]at he
      simp at he
      omega
    by_cases Xi:j=i
    · by_cases Ym:j'=i
      · rw[Xi,Ym]
      · rw[Uw Xi]at h1
        rw[Ur Ym]at h2
        have:=old j' _ _ Ym Z4 Ys h2
        simp only[Value.pointer.injEq,UA,Addr.mk.injEq]at h1
        omega
    · by_cases Ym:j'=i
      · rw[Ur Xi]at h1
        rw[Uw Ym]at h2
        have:=old j _ _ Xi hj Zd h1
        simp only[Value.pointer.injEq,UA,Addr.mk.injEq]at h2
        omega
      · rw[bj _ _ _ WL,Ur Xi]at hj
        rw[bj _ _ _ WL,Ur Ym]at Z4
        rw[Ur Xi]at h1
        rw[Ur Ym]at h2
        exact hM.apart j j' _ _ _ _ b hj Z4 Zd Ys h1 h2
theorem y7.fill (XG:K6 ops sp base) (Xv:∀j,kD (sp.F j)) {C':Array Bool} {env:Nat→Value} {S:Nat→Prop} {a:Act} {w w':World} (hF:nk ops base C' env a) (hM:y7 sp w0 C' env S w) {i j0:Nat}
    (WL:i<C'.size) (hlo:i<ops.size) (Xo:C'.getD i false=false) (hk:sp.K i=.fill j0) {b0:Nat} (hj0:C'.getD j0 false=true) {T0:TypeId} {z0:Array Value} (hk0:sp.K j0=.alloc T0 z0)
    (he:env j0=.pointer (some ⟨b0,0,none⟩)) (hns:¬S b0) (hb:tb b0 w w')
    (hf:sp.F i (fun x=>S x∨x=b0) (.pointer (some ⟨b0,0,none⟩)) w') (v:Value) :
    y7 sp w0 (C'.setIfInBounds i true) (fun k=>if k=i then v else env k) (fun x=>S x∨x=b0) w':=by
  have Z5:w0.heap.size≤b0∧b0<w.heap.size:=by
    obtain⟨b,h1,h2,h3⟩:=hM.ptrs j0 T0 z0 hj0 hk0
    rw[he]at h1
    simp at h1
    omega
  have hs:∀b,S b→w'.heap[b]?=w.heap[b]?:=fun b h=>hb.block b (fun e=>hns (e ▸ h))
  refine⟨hM.below.trans ⟨hb.os,hb.tape,hb.output,by rw[hb.size];exact Ut _,fun k hk=>hb.block k (by omega)⟩,fun b h=>.inl (hM.sbase b h),?_,?_,?_,?_,?_⟩
  · rintro b (h | h)
    · rw[hb.size];exact hM.slt b h
    · rw[hb.size,h];exact Z5.2
  · intro j hj Xm
    by_cases Xi:j=i
    · subst Xi
      have hj0i:j0≠j:=by rintro rfl;rw[Xo]at hj0;cases hj0
      rw[hk]
      show sp.F j _ (if j0=j then v else env j0) w'
      rw[Ur hj0i,he]
      exact hf
    · rw[bj _ _ _ WL,Ur Xi]at hj
      rw[Ur (CV XG hF Xo hj)]
      exact Xv j _ _ _ _ _ (hM.facts j hj Xm) (fun b h _=>.inl h) (fun b h _=>hs b h) (by rw[hb.size];exact Ut _)
  · intro j T z hj Xr ZB
    have Xi:j≠i:=by rintro rfl;rw[hk]at Xr;cases Xr
    rw[bj _ _ _ WL,Ur Xi]at hj
    have hjj:j≠j0:=by
      rintro rfl
      exact ZB i (by rw[bj _ _ _ WL,Uw rfl]) hk
    obtain⟨b,h1,h2,h3⟩:=hM.priv j T z hj Xr (fun k hk=>ZB k (by rw[bj _ _ _ WL];split<;>first | rfl | exact hk))
    have hbb:b≠b0:=by
      rintro rfl
      exact hjj (hM.apart j j0 _ _ _ _ b hj hj0 Xr hk0 h1 he)
    refine⟨b,by rw[Ur Xi];exact h1,?_,by rw[hb.block b hbb];exact h3⟩
    rintro(h | h)
    · exact h2 h
    · exact hbb h
  · intro j T z hj Xr
    have Xi:j≠i:=by rintro rfl;rw[hk]at Xr;cases Xr
    rw[bj _ _ _ WL,Ur Xi]at hj
    obtain⟨b,h1,h2,h3⟩:=hM.ptrs j T z hj Xr
    exact⟨b,by rw[Ur Xi];exact h1,h2,by rw[hb.size];exact h3⟩
  · intro j j' T z T' z' b hj Z4 Zd Ys h1 h2
    have Xi:j≠i:=by rintro rfl;rw[hk]at Zd;cases Zd
    have Ym:j'≠i:=by rintro rfl;rw[hk]at Ys;cases Ys
    rw[bj _ _ _ WL,Ur Xi]at hj
    rw[bj _ _ _ WL,Ur Ym]at Z4
    rw[Ur Xi]at h1
    rw[Ur Ym]at h2
    exact hM.apart j j' T z T' z' b hj Z4 Zd Ys h1 h2
def CP (C':Array Bool):Nat→Nat
  | 0=>0
  | n+1=>CP C' n+(if C'.getD n false then 0 else 1)
theorem AX (C':Array Bool):∀n,CP C' n=0→∀i,i<n→C'.getD i false=true
  | 0,_,i,hi=>by omega
  | n+1,h,i,hi=>by
    simp only[CP]at h
    by_cases hin:i=n
    · subst hin
      cases hl:C'.getD i false
      · rw[hl]at h;simp at h
      · rfl
    · exact AX C' n (by omega) i (by omega)
theorem Ey (C':Array Bool) (i:Nat) (hi:i<C'.size) (Xo:C'.getD i false=false):∀n,CP (C'.setIfInBounds i true) n+(if i<n then 1 else 0)=CP C' n
  | 0=>by simp[CP]
  | n+1=>by
    have ih:=Ey C' i hi Xo n
    simp only[CP]
    rw[bj _ _ _ hi]
    by_cases hin:n=i
    · subst hin
      simp only[V5,Xo]at ih ⊢
      simp at ih ⊢
      exact ih
    · rw[Ur hin]
      have e:(if i<n+1 then 1 else 0)=(if i<n then 1 else 0):=by
        by_cases h1:i<n
        · rw[Uw h1,Uw (by omega)]
        · rw[Ur h1,Ur (by omega)]
      rw[e]
      omega
theorem fQ (C':Array Bool) (hs:C'.size=ops.size) (i:Nat):i∈Region.ready .any ops C' ↔
    C'.getD i false=false∧∃o,ops[i]?=some o∧∀e∈o.after,Region.binds .any e=true→C'.getD e.on false=true:=by
  unfold Region.ready
  simp only[Wp,Va,Uo,U2]
  constructor
  · rintro⟨hi,h1,h2⟩
    have ho:ops[i]?=some ops[i]:=UM hi
    refine⟨?_,_,ho,?_⟩
    · have:i<C'.size:=by omega
      simp[this]at h1 ⊢
      exact h1
    · rw[ho]at h2
      simp only[U4,Wk,Array.all_eq_true',U3,U2]at h2
      intro e he hb
      have:=h2 e he
      rw[hb]at this
      simpa using this
  · rintro⟨h1,o,ho,h2⟩
    have hi:i<ops.size:=(UC.1 ho).1
    refine⟨hi,?_,?_⟩
    · have:i<C'.size:=by omega
      simp[this]at h1 ⊢
      exact h1
    · rw[ho]
      simp only[U4,Wk,Array.all_eq_true',U3,U2]
      intro e he
      cases hb:Region.binds .any e
      · exact .inl rfl
      · exact .inr (h2 e he hb)
theorem tc (XG:K6 ops sp base) (C':Array Bool) (hs:C'.size=ops.size) (h:Region.ready .any ops C'=[]):∀i,i<ops.size→C'.getD i false=true:=by
  intro i
  induction i using Nat.strongRecOn with
  | _ i ih =>
    intro hi
    cases hl:C'.getD i false
    · exfalso
      have ho:ops[i]?=some ops[i]:=UM hi
      have:i∈Region.ready .any ops C':=(fQ C' hs i).2 ⟨hl,_,ho,fun e he hb=>ih e.on (XG.top i _ ho e he hb) (by have:=XG.top i _ ho e he hb;omega)⟩
      rw[h]at this
      cases this
    · rfl
def Ez (ops:Array Oper) (m:Nat):Bool:=decide (m≤ops.size)&&(List.range ops.size).all fun k=>decide (k<m)||(List.range k).all fun j=>ef ops k j
theorem qD {m:Nat} (h:Ez ops m=true):m≤ops.size∧∀k,m≤k→k<ops.size→∀j,j<k→ef ops k j=true:=by
  unfold Ez at h
  simp only[Uo,U8,UU,Va,U3]at h
  exact⟨h.1,fun k hk hkn j hj=>(h.2 k hkn).resolve_left (by omega) j hj⟩
theorem qb (n:Nat):∀m,m≤n→CP (Array.replicate n false) m=m
  | 0,_=>rfl
  | m+1,h=>by
    have hm:m<n:=by omega
    simp[CP,qb n m (by omega),hm]
end
theorem kD.any:kD (fun _ _ _=>True):=fun _ _ _ _ _ _ _ _ _=>trivial
theorem kD.and {F G:(Nat→Prop)→Value→World→Prop} (h:kD F) (k:kD G):kD (fun S v w=>F S v w∧G S v w) :=
  fun S S' v w w' ⟨x,y⟩ h1 h2 h3=>⟨h S S' v w w' x h1 h2 h3,k S S' v w w' y h1 h2 h3⟩
section
variable {P:Program} {ops:Array Oper} {sp:uv} {base:Act} {w0:World}
def EA (P:Program) (ops:Array Oper) (sp:uv) (base:Act) (w0:World):Nat→List Oper→Prop
  | _,[]=>True
  | i,o::r=>rB P ops sp base w0 i o∧EA P ops sp base w0 (i+1) r
theorem EA.at:∀(l:List Oper) (i:Nat),EA P ops sp base w0 i l→∀(k:Nat) (o:Oper),l[k]?=some o→rB P ops sp base w0 (i+k) o
  | [],_,_,k,o,h=>by simp at h
  | x::l,i,h,0,o,hk=>by simp at hk;subst hk;exact h.1
  | x::l,i,h,k+1,o,hk=>by
    have:=EA.at l (i+1) h.2 k o (by simpa using hk)
    rwa [show i+1+k=i+(k+1)from by omega]at this
theorem rB.grow {i:Nat} {o:Oper} (hk:sp.K i=.grow) (hg:fD sp o)
    (h:∀(ρ:Operand→Value) (S:Nat→Prop) (w:World),yZ ρ→Below w0.heap.size w0 w→(∀b,b<w0.heap.size→S b)→kR sp base ρ S w (sp.ins i) →
      qa P (fun v w'=>Below w.heap.size w w'∧sp.F i (fun b=>S b∨w.heap.size≤b) v w') ((execOp ρ o).run P w)):rB P ops sp base w0 i o:=by
  unfold rB
  rw[hk]
  exact⟨hg,h⟩
theorem rB.skip {i:Nat} {o:Oper} (hk:sp.K i=.skip) (hg:vb sp o) (h:∀S w,sp.F i S undef w):rB P ops sp base w0 i o:=by
  unfold rB
  rw[hk]
  exact⟨hg,h⟩
theorem rB.alloc {i:Nat} {o:Oper} {T:TypeId} {z:Array Value} (hk:sp.K i=.alloc T z) (hg:fD sp o)
    (h:∀(ρ:Operand→Value) (w:World),(execOp ρ o).run P w=.ok (.value (.pointer (some ⟨w.heap.size,0,none⟩))) (w.alloc (.cells z T))):rB P ops sp base w0 i o:=by
  unfold rB
  rw[hk]
  exact⟨hg,h⟩
theorem rB.fill {i:Nat} {o:Oper} {j:Nat} {T:TypeId} {z:Array Value} {t:Tmp} (hk:sp.K i=.fill j) (Ys:sp.K j=.alloc T z) (ht:jX ops j=some t) (hg:fD sp o)
    (h:∀(ρ:Operand→Value) (S:Nat→Prop) (w:World) (b:Nat),yZ ρ→Below w0.heap.size w0 w→(∀b,b<w0.heap.size→S b)→kR sp base ρ S w (sp.ins i) →
      ρ (.tmp t)=.pointer (some ⟨b,0,none⟩)→w.heap[b]?=some (.cells z T)→¬S b →
      ∃w',(execOp ρ o).run P w=.ok .skip w'∧tb b w w'∧sp.F i (fun x=>S x∨x=b) (.pointer (some ⟨b,0,none⟩)) w'):rB P ops sp base w0 i o:=by
  unfold rB
  rw[hk]
  refine⟨hg,?_⟩
  intro T' z' t' ρ S w b q1 q2 hc hb hS hI hp hh hn
  rw[Ys]at q1
  rw[ht]at q2
  cases q1
  cases q2
  exact h ρ S w b hc hb hS hI hp hh hn
theorem fD.none {o:Oper} (h:o.guard=.none):fD sp o:=fun g XA hg=>by rw[h]at hg;cases hg
theorem fD.some {o:Oper} {g:Nat} {XA:Bool} (h:o.guard=.some (g,XA)) (hF:∀S v w,sp.F g S v w→v=.bool XA):fD sp o:=fun g' want' hg=>by
  rw[h]at hg
  cases hg
  exact hF
theorem vb.some {o:Oper} {g:Nat} {XA:Bool} (h:o.guard=.some (g,XA)) (hF:∀S v w,sp.F g S v w→v=.bool (!XA)∨v=undef):vb sp o:=⟨g,XA,h,hF⟩
end
open Go
def TC:List (Nat×List (Option FuncId)):=[]
end Go.Proofs.YtnlmlkbaflmgcaaGreat
