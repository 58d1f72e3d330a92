/- Parts of a proof. -/
import Derived.ChangeOld
import Derived.KernelRfl
import Derived.Laws.AppendOwnNone
import Derived.Laws.Bits64
import Derived.Laws.BitsAllLaws
import Derived.Laws.MakeOwn
import Derived.Laws.OwnMore
import Derived.Laws.StructEq
import Derived.Lib.Hide
import Derived.LoopNIn
import Derived.OpenShut
import Derived.OrdersIn
import Derived.ProofKit
import Derived.RangeFuncCalls
import Derived.RangeFuncRecord
import Derived.ShutString
import Derived.TacticsIn
import Derived.WalkKit
import Derived.WalkLawsBesides
import Derived.WalkSpells
import GoSem.Claim
namespace Go.Proofs.Ytgmpoenfoacofaa
open Go.RowKit
set_option linter.unusedVariables false
set_option linter.unusedSimpArgs false
theorem KD:type_of% @Bool.and_eq_true:=@Bool.and_eq_true
theorem KE:type_of% @List.getElem?_eq_some_iff:=@List.getElem?_eq_some_iff
theorem KF:type_of% @List.getElem?_eq_getElem:=@List.getElem?_eq_getElem
theorem KG:type_of% @Result.andThen_ok:=@Result.andThen_ok
theorem KH:type_of% @Sem.run_bind:=@Sem.run_bind
theorem KI:type_of% @Nat.le_refl:=@Nat.le_refl
theorem KJ:type_of% @Prod.mk.injEq:=@Prod.mk.injEq
theorem KK:type_of% @if_neg:=@if_neg
theorem KL:type_of% @List.getElem?_append_left:=@List.getElem?_append_left
theorem KM:type_of% @List.length_map:=@List.length_map
theorem KN:type_of% @List.length_append:=@List.length_append
theorem KO:type_of% @decide_eq_true:=@decide_eq_true
theorem KP:type_of% @Option.some.injEq:=@Option.some.injEq
theorem KQ:type_of% @Array.getElem?_eq_some_iff:=@Array.getElem?_eq_some_iff
theorem KR:type_of% @List.getElem?_append_right:=@List.getElem?_append_right
theorem KS:type_of% @decide_eq_false:=@decide_eq_false
theorem KT:type_of% @if_pos:=@if_pos
theorem KU:type_of% @Nat.beq_eq:=@Nat.beq_eq
theorem KV:type_of% @List.length_take:=@List.length_take
theorem KW:type_of% @List.getElem?_set_ne:=@List.getElem?_set_ne
theorem KX:type_of% @List.getElem?_map:=@List.getElem?_map
theorem KY:type_of% @List.getElem?_set_self:=@List.getElem?_set_self
theorem KZ:type_of% @Sem.run_pure:=@Sem.run_pure
theorem K0:type_of% @Array.getElem?_eq_getElem:=@Array.getElem?_eq_getElem
theorem K1:type_of% @List.length_cons:=@List.length_cons
theorem K2:type_of% @List.all_eq_true:=@List.all_eq_true
theorem K3:type_of% @Nat.mul_le_mul_right:=@Nat.mul_le_mul_right
theorem K4:type_of% @List.getElem?_take:=@List.getElem?_take
theorem K5:type_of% @Bool.not_eq_true':=@Bool.not_eq_true'
theorem K6:type_of% @List.length_nil:=@List.length_nil
theorem K7:type_of% @List.length_drop:=@List.length_drop
theorem K8:type_of% @List.map_append:=@List.map_append
theorem K9:type_of% @List.append_nil:=@List.append_nil
theorem La:type_of% @List.eq_nil_of_length_eq_zero:=@List.eq_nil_of_length_eq_zero
theorem Lb:type_of% @List.mem_of_getElem?:=@List.mem_of_getElem?
theorem Lc:type_of% @List.mem_cons_of_mem:=@List.mem_cons_of_mem
theorem Ld:type_of% @Array.getElem?_toList:=@Array.getElem?_toList
theorem Lf:type_of% @Bool.or_eq_true:=@Bool.or_eq_true
theorem Lg:type_of% @List.mem_cons_self:=@List.mem_cons_self
theorem Lh:type_of% @run_underlying:=@run_underlying
theorem Li:type_of% @Nat.zero_add:=@Nat.zero_add
theorem Lj:type_of% @Option.map_some:=@Option.map_some
theorem Lk:type_of% @List.map_nil:=@List.map_nil
theorem Ll:type_of% @List.length_replicate:=@List.length_replicate
theorem Lm:type_of% @Bool.false_eq_true:=@Bool.false_eq_true
theorem Ln:type_of% @List.eq_of_mem_replicate:=@List.eq_of_mem_replicate
theorem Lo:type_of% @List.getElem?_eq_none:=@List.getElem?_eq_none
theorem Lq:type_of% @Int.eq_ofNat_of_zero_le:=@Int.eq_ofNat_of_zero_le
theorem Lr:type_of% @Array.getD_eq_getD_getElem?:=@Array.getD_eq_getD_getElem?
theorem Ls:type_of% @List.append_assoc:=@List.append_assoc
theorem Lu:type_of% @decide_eq_true_eq:=@decide_eq_true_eq
theorem Lv:type_of% @List.mem_cons:=@List.mem_cons
theorem Lw:type_of% @Bool.and_false:=@Bool.and_false
theorem Lx:type_of% @List.mem_append_right:=@List.mem_append_right
theorem Ly:type_of% @Int.toNat_natCast:=@Int.toNat_natCast
theorem Lz:type_of% @Array.getElem?_setIfInBounds_ne:=@Array.getElem?_setIfInBounds_ne
theorem LA:type_of% @Nat.lt_of_lt_of_le:=@Nat.lt_of_lt_of_le
theorem LC:type_of% @List.mem_append_left:=@List.mem_append_left
theorem LD:type_of% @List.map_cons:=@List.map_cons
theorem LF:type_of% @List.length_set:=@List.length_set
theorem LG:type_of% @List.mem_range:=@List.mem_range
theorem LH:type_of% @Decidable.byContradiction:=@Decidable.byContradiction
theorem LJ:type_of% @Nat.ble_eq:=@Nat.ble_eq
theorem LK:type_of% @List.getElem?_replicate:=@List.getElem?_replicate
theorem LL:type_of% @List.mem_append:=@List.mem_append
theorem LM:type_of% @List.cons.injEq:=@List.cons.injEq
theorem LN:type_of% @Nat.succ_mul:=@Nat.succ_mul
theorem LO:type_of% @Nat.le_trans:=@Nat.le_trans
theorem LP:type_of% @Array.getElem?_map:=@Array.getElem?_map
theorem LQ:type_of% @List.nil_append:=@List.nil_append
theorem LR:type_of% @World.grownBy_alloc:=@World.grownBy_alloc
theorem LS:type_of% @heap_alloc_new:=@heap_alloc_new
theorem LU:type_of% @Below.heap_alloc:=@Below.heap_alloc
theorem LV:type_of% @List.take_length:=@List.take_length
theorem LW:type_of% @World.ownsRow_nil:=@World.ownsRow_nil
theorem LX:type_of% @List.eq_nil_iff_forall_not_mem:=@List.eq_nil_iff_forall_not_mem
theorem LZ:type_of% @List.getElem?_drop:=@List.getElem?_drop
theorem L0:type_of% @Bool.true_and:=@Bool.true_and
theorem L1:type_of% @List.getElem?_toArray:=@List.getElem?_toArray
theorem L2:type_of% @Nat.pow_le_pow_right:=@Nat.pow_le_pow_right
theorem L3:type_of% @List.take_succ_eq_append_getElem:=@List.take_succ_eq_append_getElem
theorem L4:type_of% @Int.tmod_eq_emod_of_nonneg:=@Int.tmod_eq_emod_of_nonneg
theorem L5:type_of% @List.getD_eq_getElem?_getD:=@List.getD_eq_getElem?_getD
theorem L6:type_of% @if_false:=@if_false
theorem L7:type_of% @List.size_toArray:=@List.size_toArray
theorem L8:type_of% @of_decide_eq_true:=@of_decide_eq_true
theorem L9:type_of% @if_true:=@if_true
theorem Ma:type_of% @Nat.add_zero:=@Nat.add_zero
theorem Mb:type_of% @List.map_set:=@List.map_set
theorem Mc:type_of% @List.mem_singleton:=@List.mem_singleton
theorem Md:type_of% @List.map_toArray:=@List.map_toArray
theorem Me:type_of% @World.putObj_heap_other:=@World.putObj_heap_other
theorem Mf:type_of% @Nat.zero_le:=@Nat.zero_le
theorem Mg:type_of% @Array.length_toList:=@Array.length_toList
theorem Mh:type_of% @List.take_of_length_le:=@List.take_of_length_le
theorem Mi:type_of% @Option.bind_some:=@Option.bind_some
theorem Mj:type_of% @Int.emod_lt_of_pos:=@Int.emod_lt_of_pos
theorem Ml:type_of% @List.take_left:=@List.take_left
theorem Mn:type_of% @Array.mem_toList_iff:=@Array.mem_toList_iff
theorem Mo:type_of% @Int.emod_nonneg:=@Int.emod_nonneg
theorem Mp:type_of% @Array.ext':=@Array.ext'
theorem Mq:type_of% @Nat.blt_eq:=@Nat.blt_eq
theorem Mr:type_of% @List.foldl_append:=@List.foldl_append
theorem Ms:type_of% @List.getElem?_set:=@List.getElem?_set
theorem Mt:type_of% @Oper.upon_enter:=@Oper.upon_enter
theorem Mu:type_of% @Nat.mul_le_mul_left:=@Nat.mul_le_mul_left
theorem Mv:type_of% @Nat.add_sub_cancel_left:=@Nat.add_sub_cancel_left
theorem Mw:type_of% @List.ext_getElem:=@List.ext_getElem
theorem Mx:type_of% @List.getElem_mem:=@List.getElem_mem
theorem My:type_of% @List.cons_append:=@List.cons_append
theorem Mz:type_of% @List.mem_filter:=@List.mem_filter
theorem MA:type_of% @Nat.add_mul:=@Nat.add_mul
theorem MB:type_of% @World.putObj_size:=@World.putObj_size
theorem MC:type_of% @Oper.uponIn_value:=@Oper.uponIn_value
theorem MD:type_of% @World.cell?_of_block:=@World.cell?_of_block
theorem ME:type_of% @Nat.mul_le_mul:=@Nat.mul_le_mul
theorem MF:type_of% @Bool.not_eq_true:=@Bool.not_eq_true
theorem MG:type_of% @Option.getD_some:=@Option.getD_some
theorem MH:type_of% @beq_self_eq_true:=@beq_self_eq_true
theorem MI:type_of% @List.getElem_of_mem:=@List.getElem_of_mem
theorem MJ:type_of% @List.take_succ_cons:=@List.take_succ_cons
theorem MK:type_of% @Nat.not_lt_zero:=@Nat.not_lt_zero
theorem ML:type_of% @Below.refl:=@Below.refl
theorem MM:type_of% @List.mem_map:=@List.mem_map
theorem MN:type_of% @List.map_map:=@List.map_map
theorem MO:type_of% @Bool.and_true:=@Bool.and_true
theorem MP:type_of% @Ne.symm:=@Ne.symm
theorem MQ:type_of% @and_true:=@and_true
def ii (F:(Nat→Prop)→Value→World→Prop):Prop :=
  ∀(S S':Nat→Prop) (v:Value) (w w':World),F S v w→(∀b,S b→b<w.heap.size→S' b) →
    (∀b,S b→b<w.heap.size→w'.heap[b]?=w.heap[b]?)→w.heap.size≤w'.heap.size→F S' v w'
def lK (P:Program) (R:Value→World→Prop):Result Next→Prop
  | .ok (.value v) w'=>R v w'
  | .ok .skip w'=>R undef w'
  | .ok (.enter f args) w'=>Calls P f args w' (fun e w''=>∃v,e=.returned v∧R v w'')
  | _=>False
theorem lK.upon {P:Program} {R:Value→World→Prop} {o:Oper} {a:Act} {next:Act→World→Prop} {Q:Exit→Act→World→Prop} {r:Result Next}
    (h:lK P R r) (hn:∀v w',R v w'→next (a.put o.dst v) w'):o.upon P a next Q r:=by
  cases r with
  | ok n w' =>
    cases n<;>simp only[lK]at h
    case value v=>exact hn _ _ h
    case skip=>exact hn _ _ h
    case enter f args =>
      refine h.mono ?_
      rintro e w'' ⟨v,rfl,hr⟩
      exact hn _ _ hr
  | halt x w'=>simp only[lK]at h
theorem lK.ok {P:Program} {R:Value→World→Prop} {v:Value} {w':World} (h:R v w'):lK P R (.ok (.value v) w'):=h
theorem lK.enter {P:Program} {R:Value→World→Prop} {f:FuncId} {args:Array Value} {w':World} (h:Calls P f args w' (fun e w''=>∃v,e=.returned v∧R v w'')):lK P R (.ok (.enter f args) w'):=h
theorem lK.of {P:Program} {R:Value→World→Prop} {r:Result Next} {v:Value} {w':World} (h:r=.ok (.value v) w') (hR:R v w'):lK P R r:=by
  rw[h];exact hR
attribute [irreducible] lK
inductive px where
  | grow
  | skip
  | alloc (T:TypeId) (zero:Array Value)
  | fill (j:Nat)
def px.isAlloc:px→Bool | .alloc _ _=>true | _=>false
def px.who:px→Nat→Nat | .fill j,_=>j | _,i=>i
structure py where
  K:Nat→px
  F:Nat→(Nat→Prop)→Value→World→Prop
  ins:Nat→List (Tmp×Option Nat)
section
variable (P:Program) (ops:Array Oper) (sp:py) (base:Act) (w0:World)
def zg (i j:Nat):Bool:=match ops[i]? with | some o=>o.after.any (fun e=>Region.binds .any e&&e.on==j) | none=>false
def uO:Nat→Nat→Nat→Bool
  | 0,i,j=>zg ops i j
  | f+1,i,j=>zg ops i j||(match ops[i]? with | some o=>o.after.any (fun e=>Nat.blt j e.on&&Region.binds .any e&&uO f e.on j) | none=>false)
abbrev cf (i j:Nat):Bool:=uO ops 12 i j
def gP (i:Nat):Option Tmp:=(ops[i]?).bind (·.dst)
def iW (i:Nat) (j:Option Nat) (t:Tmp):Bool :=
  (List.range ops.size).all fun k=>gP ops k != some t||k==i||some k==j||cf ops k i||(match j with | some j=>cf ops j k | none=>false)
def Hv (i:Nat) (p:Tmp×Option Nat):Bool :=
  match p.2 with
  | none=>iW ops i none p.1
  | some k=>match sp.K k with
    | .fill j=>gP ops j==some p.1&&cf ops i j&&cf ops i k&&iW ops i (some j) p.1
    | .alloc _ _=>false
    | _=>gP ops k==some p.1&&cf ops i k&&iW ops i (some k) p.1
def Cl (i:Nat):Bool :=
  (match ops[i]? with
   | some o=>o.after.all (fun e=>!Region.binds .any e||decide (e.on<i)) &&
      (match o.dst with
       | some t=>decide (t<base.tmps.size)&&(List.range i).all (fun k=>gP ops k != some t||cf ops i k)
       | none=>true) &&
      (match o.guard with
       | some (g,_)=>cf ops i g&&(match gP ops g with | some t=>iW ops i (some g) t | none=>false)&&(match sp.K g with | .alloc _ _=>false | .fill _=>false | _=>true)
       | none=>true)
   | none=>true) &&
  (sp.ins i).all (Hv ops sp i) &&
  (match sp.K i with
   | .fill j=>cf ops i j&&(match gP ops j with | some t=>iW ops i (some j) t | none=>false)&&(sp.K j).isAlloc&&(gP ops i==none) &&
      (List.range ops.size).all (fun k=>k==i||(match sp.K k with | .fill j'=>j' != j | _=>true))
   | .skip=>true
   | _=>true)
def F9:Bool:=(List.range ops.size).all (Cl ops sp base)
def iq (ρ:Operand→Value) (S:Nat→Prop) (w:World):List (Tmp×Option Nat)→Prop
  | []=>True
  | (t,none)::r=>ρ (.tmp t)=base.tmps.getD t undef∧iq ρ S w r
  | (t,some k)::r=>sp.F k S (ρ (.tmp t)) w∧iq ρ S w r
structure oA (b:Nat) (w w':World):Prop where
  os:w'.os=w.os
  tape:w'.tape=w.tape
  output:w'.output=w.output
  size:w'.heap.size=w.heap.size
  block:∀k,k≠b→w'.heap[k]?=w.heap[k]?
def dF (o:Oper):Prop:=∀g NM,o.guard=some (g,NM)→∀S v w,sp.F g S v w→v=.bool NM
def qj (o:Oper):Prop:=∃g NM,o.guard=some (g,NM)∧∀S v w,sp.F g S v w→v=.bool (!NM)∨v=undef
structure uP (ρ:Operand→Value):Prop where
  const:∀v,ρ (.const v)=v
  func:∀f,ρ (.func f)=.func (.func f) #[] #[]
  global:∀g,ρ (.global g)=.pointer (some ⟨g,0,none⟩)
def mR (i:Nat) (o:Oper):Prop :=
  match sp.K i with
  | .grow=>dF sp o∧∀ρ S w,uP ρ→Below w0.heap.size w0 w→(∀b,b<w0.heap.size→S b)→iq sp base ρ S w (sp.ins i) →
      lK P (fun v w'=>Below w.heap.size w w'∧sp.F i (fun b=>S b∨w.heap.size≤b) v w') ((execOp ρ o).run P w)
  | .skip=>qj sp o∧∀S w,sp.F i S undef w
  | .alloc T z=>dF sp o∧∀ρ w,(execOp ρ o).run P w=.ok (.value (.pointer (some ⟨w.heap.size,0,none⟩))) (w.alloc (.cells z T))
  | .fill j=>dF sp o∧∀T z t ρ S w b,sp.K j=.alloc T z→gP ops j=some t→uP ρ→Below w0.heap.size w0 w→(∀b,b<w0.heap.size→S b)→iq sp base ρ S w (sp.ins i) →
      ρ (.tmp t)=.pointer (some ⟨b,0,none⟩)→w.heap[b]?=some (.cells z T)→¬S b →
      ∃w',(execOp ρ o).run P w=.ok .skip w'∧oA b w w'∧sp.F i (fun x=>S x∨x=b) (.pointer (some ⟨b,0,none⟩)) w'
structure jO (C':Array Bool) (env:Nat→Value) (a:Act):Prop where
  lsize:C'.size=ops.size
  closed:∀i o,C'.getD i false=true→ops[i]?=some o→∀e∈o.after,Region.binds .any e=true→C'.getD e.on false=true
  defers:a.defers=base.defers
  tsize:a.tmps.size=base.tmps.size
  slots:∀t,(∀k,C'.getD k false=true→gP ops k≠some t)→a.tmps[t]?=base.tmps[t]?
  vals:∀j t,C'.getD j false=true→gP ops j=some t→(∀k,C'.getD k false=true→gP ops k=some t→k≠j→cf ops j k=true)→a.tmps[t]?=some (env j)
structure uQ (C':Array Bool) (env:Nat→Value) (S:Nat→Prop) (w:World):Prop where
  below:Below w0.heap.size w0 w
  sbase:∀b,b<w0.heap.size→S b
  slt:∀b,S b→b<w.heap.size
  facts:∀j,C'.getD j false=true→(sp.K j).isAlloc=false→sp.F j S (env ((sp.K j).who j)) w
  priv:∀j T z,C'.getD j false=true→sp.K j=.alloc T z→(∀k,C'.getD k false=true→sp.K k≠.fill j) →
    ∃b,env j=.pointer (some ⟨b,0,none⟩)∧¬S b∧w.heap[b]?=some (.cells z T)
  ptrs:∀j T z,C'.getD j false=true→sp.K j=.alloc T z→∃b,env j=.pointer (some ⟨b,0,none⟩)∧w0.heap.size≤b∧b<w.heap.size
  apart:∀j j' T z T' z' b,C'.getD j false=true→C'.getD j' false=true→sp.K j=.alloc T z→sp.K j'=.alloc T' z'→env j=.pointer (some ⟨b,0,none⟩)→env j'=.pointer (some ⟨b,0,none⟩)→j=j'
end
section
variable {P:Program} {ops:Array Oper} {sp:py} {base:Act} {w0:World}
theorem aL (l:Array Bool) (i k:Nat) (hi:i<l.size):(l.setIfInBounds i true).getD k false=(if k=i then true else l.getD k false):=by
  by_cases h:k=i
  · subst h;simp[hi]
  · rw[KK h]
    simp only[Lr]
    rw[Lz (fun e=>h e.symm)]
theorem mS {C':Array Bool} {i j:Nat} (hc:∀o,ops[i]?=some o→∀e∈o.after,Region.binds .any e=true→C'.getD e.on false=true)
    (h:zg ops i j=true):C'.getD j false=true:=by
  unfold zg at h
  split at h
  · rename_i o ho
    simp only[Array.any_eq_true',KD,beq_iff_eq]at h
    obtain⟨e,he,hb,rfl⟩:=h
    exact hc o ho e he hb
  · cases h
theorem eW {C':Array Bool} (hcl:∀i o,C'.getD i false=true→ops[i]?=some o→∀e∈o.after,Region.binds .any e=true→C'.getD e.on false=true) :
    ∀(f i j:Nat),(∀o,ops[i]?=some o→∀e∈o.after,Region.binds .any e=true→C'.getD e.on false=true)→uO ops f i j=true→C'.getD j false=true:=by
  intro f
  induction f with
  | zero=>intro i j hc h;exact mS hc h
  | succ f ih =>
    intro i j hc h
    simp only[uO,Lf]at h
    rcases h with h | h
    · exact mS hc h
    · split at h
      · rename_i o ho
        simp only[Array.any_eq_true',KD]at h
        obtain⟨e,he,⟨_,hb⟩,h⟩:=h
        exact ih e.on j (fun o' NT=>hcl e.on o' (hc o ho e he hb) NT) h
      · cases h
structure EM (ops:Array Oper) (sp:py) (base:Act):Prop where
  top:∀i o,ops[i]?=some o→∀e∈o.after,Region.binds .any e=true→e.on<i
  writes:∀i t,gP ops i=some t→t<base.tmps.size∧∀k,k<i→gP ops k=some t→cf ops i k=true
  guard:∀i o g NM,ops[i]?=some o→o.guard=some (g,NM)→cf ops i g=true∧(sp.K g).isAlloc=false∧(sp.K g).who g=g∧∃t,gP ops g=some t∧iW ops i (some g) t=true
  ins:∀i,i<ops.size→∀p∈sp.ins i,Hv ops sp i p=true
  fill:∀i j,i<ops.size→sp.K i=.fill j→cf ops i j=true∧(∃t,gP ops j=some t∧iW ops i (some j) t=true)∧(sp.K j).isAlloc=true∧gP ops i=none∧∀k,k<ops.size→sp.K k=.fill j→k=i
theorem wg (h:F9 ops sp base=true):EM ops sp base:=by
  unfold F9 at h
  simp only[K2,LG]at h
  have lt:∀i o,ops[i]?=some o→i<ops.size:=fun i o ho=>(KQ.1 ho).1
  refine⟨?_,?_,?_,?_,?_⟩
  · intro i o ho e he hb
    have:=h i (lt i o ho)
    unfold Cl at this
    simp only[ho,KD,Array.all_eq_true',Lf,K5,Lu]at this
    have h2:=this.1.1.1.1 e he
    rcases h2 with h2 | h2
    · rw[hb]at h2;cases h2
    · exact h2
  · intro i t ht
    unfold gP at ht
    cases ho:ops[i]? with
    | none=>rw[ho]at ht;cases ht
    | some o =>
      rw[ho]at ht
      simp only[Mi]at ht
      have:=h i (lt i o ho)
      unfold Cl at this
      simp only[ho,ht,KD,Lu,K2,LG,Lf,bne_iff_ne]at this
      refine⟨this.1.1.1.2.1,fun k hk hkt=>?_⟩
      have h2:=this.1.1.1.2.2 k hk
      exact h2.resolve_left (fun NF=>NF hkt)
  · intro i o g NM ho hg
    have:=h i (lt i o ho)
    unfold Cl at this
    simp only[ho,hg,KD]at this
    obtain⟨⟨h1,h2⟩,h3⟩:=this.1.1.2
    refine⟨h1,?_,?_,?_⟩
    · cases hk:sp.K g<;>simp[hk,px.isAlloc]at h3 ⊢
    · cases hk:sp.K g<;>simp[hk,px.who]at h3 ⊢
    · cases ht:gP ops g with
      | none=>simp[ht]at h2
      | some t=>exact⟨t,rfl,by simpa[ht]using h2⟩
  · intro i hi p hp
    have:=h i hi
    unfold Cl at this
    simp only[KD,K2]at this
    exact this.1.2 p hp
  · intro i j hi hk
    have:=h i hi
    unfold Cl at this
    simp only[hk,KD,K2,LG,Lf,beq_iff_eq]at this
    obtain⟨⟨⟨⟨h1,h2⟩,h3⟩,h4⟩,h5⟩:=this.2
    refine⟨h1,?_,h3,h4,fun k NH PB=>?_⟩
    · cases ht:gP ops j with
      | none=>simp[ht]at h2
      | some t=>exact⟨t,rfl,by simpa[ht]using h2⟩
    · rcases h5 k NH with h6 | h6
      · exact h6
      · rw[PB]at h6;simp at h6
theorem tq (a:Act) (d:Option Tmp) (v:Value) (t:Tmp) (h:d≠some t):(a.put d v).tmps[t]?=a.tmps[t]?:=by
  cases d with
  | none=>rfl
  | some d=>exact Lz (fun e=>h (by rw[e]))
theorem Cm (a:Act) (v:Value) (t:Tmp) (h:t<a.tmps.size):(a.put (some t) v).tmps[t]?=some v:=by
  simp[Act.put,h]
theorem Cn (a:Act) (d:Option Tmp) (v:Value):(a.put d v).tmps.size=a.tmps.size:=by
  cases d<;>simp[Act.put]
theorem wh (a:Act) (d:Option Tmp) (v:Value):(a.put d v).defers=a.defers:=by
  cases d<;>rfl
theorem jO.step (OD:EM ops sp base) {C':Array Bool} {env:Nat→Value} {a:Act} (hF:jO ops base C' env a) {i:Nat} {o:Oper} (hi:ops[i]?=some o)
    (NC:C'.getD i false=false) (hr:∀e∈o.after,Region.binds .any e=true→C'.getD e.on false=true) (v:Value) :
    jO ops base (C'.setIfInBounds i true) (fun k=>if k=i then v else env k) (a.put o.dst v):=by
  have M6:i<C'.size:=by rw[hF.lsize];exact(KQ.1 hi).1
  have hd:gP ops i=o.dst:=by simp[gP,hi]
  refine⟨by simpa using hF.lsize,?_,by rw[wh];exact hF.defers,by rw[Cn];exact hF.tsize,?_,?_⟩
  · intro k ok hk Ri e he hb
    rw[aL _ _ _ M6]at hk ⊢
    split
    · rfl
    · by_cases NW:k=i
      · subst NW
        rw[hi]at Ri
        cases Ri
        exact hr e he hb
      · rw[KK NW]at hk
        exact hF.closed k ok hk Ri e he hb
  · intro t ht
    have h1:o.dst≠some t:=by
      have:=ht i (by rw[aL _ _ _ M6,KT rfl])
      rwa [hd]at this
    rw[tq _ _ _ _ h1]
    refine hF.slots t (fun k hk=>ht k ?_)
    rw[aL _ _ _ M6]
    split
    · rfl
    · exact hk
  · intro j t hj hjt hw
    by_cases NB:j=i
    · subst NB
      rw[hd]at hjt
      simp only[L9,hjt]
      refine Cm _ _ _ ?_
      rw[hF.tsize]
      exact(OD.writes j t (by rw[hd];exact hjt)).1
    · rw[aL _ _ _ M6,KK NB]at hj
      have h1:o.dst≠some t:=by
        intro h1
        have hb:=hw i (by rw[aL _ _ _ M6,KT rfl]) (by rw[hd];exact h1) (fun e=>NB e.symm)
        have:=eW hF.closed 12 j i (fun oj Sw=>hF.closed j oj hj Sw) hb
        rw[NC]at this
        cases this
      rw[tq _ _ _ _ h1]
      simp only[KK NB]
      refine hF.vals j t hj hjt (fun k hk hkt hkj=>hw k ?_ hkt hkj)
      rw[aL _ _ _ M6]
      split
      · rfl
      · exact hk
theorem xR (OD:EM ops sp base) {C':Array Bool} {env:Nat→Value} {a:Act} (hF:jO ops base C' env a) {i k:Nat} (NC:C'.getD i false=false) (hk:C'.getD k false=true):(sp.K k).who k≠i:=by
  have NW:k≠i:=by rintro rfl;rw[NC]at hk;cases hk
  cases PB:sp.K k with
  | fill j =>
    simp only[px.who]
    rintro rfl
    have M6:k<ops.size:=by
      rw[← hF.lsize]
      refine LH fun hn=>?_
      simp[Array.getD,hn]at hk
    have hb:=(OD.fill k j M6 PB).1
    have:=eW hF.closed 12 k j (fun o' NT=>hF.closed k o' hk NT) hb
    rw[NC]at this;cases this
  | grow=>exact NW
  | skip=>exact NW
  | alloc T z=>exact NW
theorem uQ.grow (OD:EM ops sp base) (NR:∀j,ii (sp.F j)) {C':Array Bool} {env:Nat→Value} {S:Nat→Prop} {a:Act} {w w':World} (hF:jO ops base C' env a) (hM:uQ sp w0 C' env S w) {i:Nat}
    (M6:i<C'.size) (NC:C'.getD i false=false) (hk:sp.K i=.grow∨sp.K i=.skip) {v:Value} (hb:Below w.heap.size w w') (hf:sp.F i (fun b=>S b∨w.heap.size≤b) v w') :
    uQ sp w0 (C'.setIfInBounds i true) (fun k=>if k=i then v else env k) (fun b=>S b∨(w.heap.size≤b∧b<w'.heap.size)) w':=by
  have hwi:(sp.K i).who i=i:=by rcases hk with hk | hk<;>rw[hk]<;>rfl
  have Qs:∀T z,sp.K i≠.alloc T z:=by rcases hk with hk | hk<;>rw[hk]<;>simp
  have hN:=hM.below.size
  refine⟨hM.below.trans (hb.mono hN),fun b h=>.inl (hM.sbase b h),?_,?_,?_,?_,?_⟩
  · rintro b (h | h)
    · exact LA (hM.slt b h) hb.size
    · exact h.2
  · intro j hj NA
    by_cases NB:j=i
    · subst NB
      rw[hwi]
      simp only[L9]
      exact NR j _ _ _ _ _ hf (fun b h hl=>h.imp id (fun h=>⟨h,hl⟩)) (fun _ _ _=>rfl) (KI _)
    · rw[aL _ _ _ M6,KK NB]at hj
      rw[KK (xR OD hF NC hj)]
      exact NR j _ _ _ _ _ (hM.facts j hj NA) (fun b h _=>.inl h) (fun b _ h=>hb.block b h) hb.size
  · intro j T z hj NH PS
    by_cases NB:j=i
    · subst NB;exact absurd NH (Qs _ _)
    · rw[aL _ _ _ M6,KK NB]at hj
      obtain⟨b,h1,h2,h3⟩:=hM.priv j T z hj NH (fun k hk=>PS k (by rw[aL _ _ _ M6];split<;>first | rfl | exact hk))
      have hbl:b<w.heap.size:=(KQ.1 h3).1
      refine⟨b,by rw[KK NB];exact h1,?_,by rw[hb.block b hbl];exact h3⟩
      rintro(h | h)
      · exact h2 h
      · omega
  · intro j T z hj NH
    by_cases NB:j=i
    · subst NB;exact absurd NH (Qs _ _)
    · rw[aL _ _ _ M6,KK NB]at hj
      obtain⟨b,h1,h2,h3⟩:=hM.ptrs j T z hj NH
      exact⟨b,by rw[KK NB];exact h1,h2,LA h3 hb.size⟩
  · intro j j' T z T' z' b hj Rp Pu Ou h1 h2
    have NB:j≠i:=by rintro rfl;exact Qs _ _ Pu
    have OI:j'≠i:=by rintro rfl;exact Qs _ _ Ou
    rw[aL _ _ _ M6,KK NB]at hj
    rw[aL _ _ _ M6,KK OI]at Rp
    rw[KK NB]at h1
    rw[KK OI]at h2
    exact hM.apart j j' T z T' z' b hj Rp Pu Ou h1 h2
theorem uQ.alloc (OD:EM ops sp base) (NR:∀j,ii (sp.F j)) {C':Array Bool} {env:Nat→Value} {S:Nat→Prop} {a:Act} {w:World} (hF:jO ops base C' env a) (hM:uQ sp w0 C' env S w) {i:Nat}
    (M6:i<C'.size) (NC:C'.getD i false=false) {T:TypeId} {z:Array Value} (hk:sp.K i=.alloc T z) :
    uQ sp w0 (C'.setIfInBounds i true) (fun k=>if k=i then .pointer (some ⟨w.heap.size,0,none⟩)else env k) S (w.alloc (.cells z T)):=by
  have hN:=hM.below.size
  have M0:(w.alloc (.cells z T)).heap.size=w.heap.size+1:=by simp
  refine⟨hM.below.alloc hN _,hM.sbase,fun b h=>by have:=hM.slt b h;omega,?_,?_,?_,?_⟩
  · intro j hj NA
    by_cases NB:j=i
    · subst NB;rw[hk]at NA;cases NA
    · rw[aL _ _ _ M6,KK NB]at hj
      rw[KK (xR OD hF NC hj)]
      exact NR j _ _ _ _ _ (hM.facts j hj NA) (fun b h _=>h) (fun b _ h=>LU w _ b h) (by omega)
  · intro j T' z' hj NH PS
    by_cases NB:j=i
    · subst NB
      rw[hk]at NH
      cases NH
      exact⟨w.heap.size,by simp,fun h=>by have:=hM.slt _ h;omega,LS w _⟩
    · rw[aL _ _ _ M6,KK NB]at hj
      obtain⟨b,h1,h2,h3⟩:=hM.priv j T' z' hj NH (fun k hk=>PS k (by rw[aL _ _ _ M6];split<;>first | rfl | exact hk))
      have hbl:b<w.heap.size:=(KQ.1 h3).1
      exact⟨b,by rw[KK NB];exact h1,h2,by rw[LU w _ b hbl];exact h3⟩
  · intro j T' z' hj NH
    by_cases NB:j=i
    · subst NB
      exact⟨w.heap.size,by simp,hN,by omega⟩
    · rw[aL _ _ _ M6,KK NB]at hj
      obtain⟨b,h1,h2,h3⟩:=hM.ptrs j T' z' hj NH
      exact⟨b,by rw[KK NB];exact h1,h2,by omega⟩
  · intro j j' T1 z1 T' z' b hj Rp Pu Ou h1 h2
    have old:∀k T2 z2,k≠i→(C'.setIfInBounds i true).getD k false=true→sp.K k=.alloc T2 z2→env k=.pointer (some ⟨b,0,none⟩)→b<w.heap.size:=by
      intro k T2 z2 NW NY PB he
      rw[aL _ _ _ M6,KK NW]at NY
      obtain⟨b',h1,h2,h3⟩:=hM.ptrs k T2 z2 NY PB
      rw[h1]at he
      simp at he
      omega
    by_cases NB:j=i
    · by_cases OI:j'=i
      · rw[NB,OI]
      · rw[KT NB]at h1
        rw[KK OI]at h2
        have:=old j' _ _ OI Rp Ou h2
        simp only[Value.pointer.injEq,KP,Addr.mk.injEq]at h1
        omega
    · by_cases OI:j'=i
      · rw[KK NB]at h1
        rw[KT OI]at h2
        have:=old j _ _ NB hj Pu h1
        simp only[Value.pointer.injEq,KP,Addr.mk.injEq]at h2
        omega
      · rw[aL _ _ _ M6,KK NB]at hj
        rw[aL _ _ _ M6,KK OI]at Rp
        rw[KK NB]at h1
        rw[KK OI]at h2
        exact hM.apart j j' _ _ _ _ b hj Rp Pu Ou h1 h2
theorem uQ.fill (OD:EM ops sp base) (NR:∀j,ii (sp.F j)) {C':Array Bool} {env:Nat→Value} {S:Nat→Prop} {a:Act} {w w':World} (hF:jO ops base C' env a) (hM:uQ sp w0 C' env S w) {i j0:Nat}
    (M6:i<C'.size) (hlo:i<ops.size) (NC:C'.getD i false=false) (hk:sp.K i=.fill j0) {b0:Nat} (hj0:C'.getD j0 false=true) {T0:TypeId} {z0:Array Value} (hk0:sp.K j0=.alloc T0 z0)
    (he:env j0=.pointer (some ⟨b0,0,none⟩)) (hns:¬S b0) (hb:oA b0 w w')
    (hf:sp.F i (fun x=>S x∨x=b0) (.pointer (some ⟨b0,0,none⟩)) w') (v:Value) :
    uQ sp w0 (C'.setIfInBounds i true) (fun k=>if k=i then v else env k) (fun x=>S x∨x=b0) w':=by
  have Rh:w0.heap.size≤b0∧b0<w.heap.size:=by
    obtain⟨b,h1,h2,h3⟩:=hM.ptrs j0 T0 z0 hj0 hk0
    rw[he]at h1
    simp at h1
    omega
  have hs:∀b,S b→w'.heap[b]?=w.heap[b]?:=fun b h=>hb.block b (fun e=>hns (e ▸ h))
  refine⟨hM.below.trans ⟨hb.os,hb.tape,hb.output,by rw[hb.size];exact KI _,fun k hk=>hb.block k (by omega)⟩,fun b h=>.inl (hM.sbase b h),?_,?_,?_,?_,?_⟩
  · rintro b (h | h)
    · rw[hb.size];exact hM.slt b h
    · rw[hb.size,h];exact Rh.2
  · intro j hj NA
    by_cases NB:j=i
    · subst NB
      have hj0i:j0≠j:=by rintro rfl;rw[NC]at hj0;cases hj0
      rw[hk]
      show sp.F j _ (if j0=j then v else env j0) w'
      rw[KK hj0i,he]
      exact hf
    · rw[aL _ _ _ M6,KK NB]at hj
      rw[KK (xR OD hF NC hj)]
      exact NR j _ _ _ _ _ (hM.facts j hj NA) (fun b h _=>.inl h) (fun b h _=>hs b h) (by rw[hb.size];exact KI _)
  · intro j T z hj NH PS
    have NB:j≠i:=by rintro rfl;rw[hk]at NH;cases NH
    rw[aL _ _ _ M6,KK NB]at hj
    have hjj:j≠j0:=by
      rintro rfl
      exact PS i (by rw[aL _ _ _ M6,KT rfl]) hk
    obtain⟨b,h1,h2,h3⟩:=hM.priv j T z hj NH (fun k hk=>PS k (by rw[aL _ _ _ M6];split<;>first | rfl | exact hk))
    have hbb:b≠b0:=by
      rintro rfl
      exact hjj (hM.apart j j0 _ _ _ _ b hj hj0 NH hk0 h1 he)
    refine⟨b,by rw[KK NB];exact h1,?_,by rw[hb.block b hbb];exact h3⟩
    rintro(h | h)
    · exact h2 h
    · exact hbb h
  · intro j T z hj NH
    have NB:j≠i:=by rintro rfl;rw[hk]at NH;cases NH
    rw[aL _ _ _ M6,KK NB]at hj
    obtain⟨b,h1,h2,h3⟩:=hM.ptrs j T z hj NH
    exact⟨b,by rw[KK NB];exact h1,h2,by rw[hb.size];exact h3⟩
  · intro j j' T z T' z' b hj Rp Pu Ou h1 h2
    have NB:j≠i:=by rintro rfl;rw[hk]at Pu;cases Pu
    have OI:j'≠i:=by rintro rfl;rw[hk]at Ou;cases Ou
    rw[aL _ _ _ M6,KK NB]at hj
    rw[aL _ _ _ M6,KK OI]at Rp
    rw[KK NB]at h1
    rw[KK OI]at h2
    exact hM.apart j j' T z T' z' b hj Rp Pu Ou h1 h2
def wb (C':Array Bool):Nat→Nat
  | 0=>0
  | n+1=>wb C' n+(if C'.getD n false then 0 else 1)
theorem wi (C':Array Bool):∀n,wb C' n=0→∀i,i<n→C'.getD i false=true
  | 0,_,i,hi=>by omega
  | n+1,h,i,hi=>by
    simp only[wb]at h
    by_cases NN:i=n
    · subst NN
      cases hl:C'.getD i false
      · rw[hl]at h;simp at h
      · rfl
    · exact wi C' n (by omega) i (by omega)
theorem zh (C':Array Bool) (i:Nat) (hi:i<C'.size) (NC:C'.getD i false=false):∀n,wb (C'.setIfInBounds i true) n+(if i<n then 1 else 0)=wb C' n
  | 0=>by simp[wb]
  | n+1=>by
    have ih:=zh C' i hi NC n
    simp only[wb]
    rw[aL _ _ _ hi]
    by_cases NN:n=i
    · subst NN
      simp only[L9,NC]at ih ⊢
      simp at ih ⊢
      exact ih
    · rw[KK NN]
      have e:(if i<n+1 then 1 else 0)=(if i<n then 1 else 0):=by
        by_cases h1:i<n
        · rw[KT h1,KT (by omega)]
        · rw[KK h1,KK (by omega)]
      rw[e]
      omega
theorem bB (C':Array Bool) (hs:C'.size=ops.size) (i:Nat):i∈Region.ready .any ops C' ↔
    C'.getD i false=false∧∃o,ops[i]?=some o∧∀e∈o.after,Region.binds .any e=true→C'.getD e.on false=true:=by
  unfold Region.ready
  simp only[Mz,LG,KD,K5]
  constructor
  · rintro⟨hi,h1,h2⟩
    have ho:ops[i]?=some ops[i]:=K0 hi
    refine⟨?_,_,ho,?_⟩
    · have:i<C'.size:=by omega
      simp[this]at h1 ⊢
      exact h1
    · rw[ho]at h2
      simp only[Lj,MG,Array.all_eq_true',Lf,K5]at h2
      intro e he hb
      have:=h2 e he
      rw[hb]at this
      simpa using this
  · rintro⟨h1,o,ho,h2⟩
    have hi:i<ops.size:=(KQ.1 ho).1
    refine⟨hi,?_,?_⟩
    · have:i<C'.size:=by omega
      simp[this]at h1 ⊢
      exact h1
    · rw[ho]
      simp only[Lj,MG,Array.all_eq_true',Lf,K5]
      intro e he
      cases hb:Region.binds .any e
      · exact .inl rfl
      · exact .inr (h2 e he hb)
theorem oB (OD:EM ops sp base) (C':Array Bool) (hs:C'.size=ops.size) (h:Region.ready .any ops C'=[]):∀i,i<ops.size→C'.getD i false=true:=by
  intro i
  induction i using Nat.strongRecOn with
  | _ i ih =>
    intro hi
    cases hl:C'.getD i false
    · exfalso
      have ho:ops[i]?=some ops[i]:=K0 hi
      have:i∈Region.ready .any ops C':=(bB C' hs i).2 ⟨hl,_,ho,fun e he hb=>ih e.on (OD.top i _ ho e he hb) (by have:=OD.top i _ ho e he hb;omega)⟩
      rw[h]at this
      cases this
    · rfl
def zi (ops:Array Oper) (m:Nat):Bool:=decide (m≤ops.size)&&(List.range ops.size).all fun k=>decide (k<m)||(List.range k).all fun j=>cf ops k j
theorem md {m:Nat} (h:zi ops m=true):m≤ops.size∧∀k,m≤k→k<ops.size→∀j,j<k→cf ops k j=true:=by
  unfold zi at h
  simp only[KD,Lu,K2,LG,Lf]at h
  exact⟨h.1,fun k hk hkn j hj=>(h.2 k hkn).resolve_left (by omega) j hj⟩
theorem lP (n:Nat):∀m,m≤n→wb (Array.replicate n false) m=m
  | 0,_=>rfl
  | m+1,h=>by
    have hm:m<n:=by omega
    simp[wb,lP n m (by omega),hm]
end
theorem ii.any:ii (fun _ _ _=>True):=fun _ _ _ _ _ _ _ _ _=>trivial
theorem ii.and {F G:(Nat→Prop)→Value→World→Prop} (h:ii F) (k:ii G):ii (fun S v w=>F S v w∧G S v w) :=
  fun S S' v w w' ⟨x,y⟩ h1 h2 h3=>⟨h S S' v w w' x h1 h2 h3,k S S' v w w' y h1 h2 h3⟩
section
variable {P:Program} {ops:Array Oper} {sp:py} {base:Act} {w0:World}
def zj (P:Program) (ops:Array Oper) (sp:py) (base:Act) (w0:World):Nat→List Oper→Prop
  | _,[]=>True
  | i,o::r=>mR P ops sp base w0 i o∧zj P ops sp base w0 (i+1) r
theorem zj.at:∀(l:List Oper) (i:Nat),zj P ops sp base w0 i l→∀(k:Nat) (o:Oper),l[k]?=some o→mR P ops sp base w0 (i+k) o
  | [],_,_,k,o,h=>by simp at h
  | x::l,i,h,0,o,hk=>by simp at hk;subst hk;exact h.1
  | x::l,i,h,k+1,o,hk=>by
    have:=zj.at l (i+1) h.2 k o (by simpa using hk)
    rwa [show i+1+k=i+(k+1)from by omega]at this
theorem mR.grow {i:Nat} {o:Oper} (hk:sp.K i=.grow) (hg:dF sp o)
    (h:∀(ρ:Operand→Value) (S:Nat→Prop) (w:World),uP ρ→Below w0.heap.size w0 w→(∀b,b<w0.heap.size→S b)→iq sp base ρ S w (sp.ins i) →
      lK P (fun v w'=>Below w.heap.size w w'∧sp.F i (fun b=>S b∨w.heap.size≤b) v w') ((execOp ρ o).run P w)):mR P ops sp base w0 i o:=by
  unfold mR
  rw[hk]
  exact⟨hg,h⟩
theorem mR.skip {i:Nat} {o:Oper} (hk:sp.K i=.skip) (hg:qj sp o) (h:∀S w,sp.F i S undef w):mR P ops sp base w0 i o:=by
  unfold mR
  rw[hk]
  exact⟨hg,h⟩
theorem mR.alloc {i:Nat} {o:Oper} {T:TypeId} {z:Array Value} (hk:sp.K i=.alloc T z) (hg:dF sp o)
    (h:∀(ρ:Operand→Value) (w:World),(execOp ρ o).run P w=.ok (.value (.pointer (some ⟨w.heap.size,0,none⟩))) (w.alloc (.cells z T))):mR P ops sp base w0 i o:=by
  unfold mR
  rw[hk]
  exact⟨hg,h⟩
theorem mR.fill {i:Nat} {o:Oper} {j:Nat} {T:TypeId} {z:Array Value} {t:Tmp} (hk:sp.K i=.fill j) (Ou:sp.K j=.alloc T z) (ht:gP ops j=some t) (hg:dF sp o)
    (h:∀(ρ:Operand→Value) (S:Nat→Prop) (w:World) (b:Nat),uP ρ→Below w0.heap.size w0 w→(∀b,b<w0.heap.size→S b)→iq sp base ρ S w (sp.ins i) →
      ρ (.tmp t)=.pointer (some ⟨b,0,none⟩)→w.heap[b]?=some (.cells z T)→¬S b →
      ∃w',(execOp ρ o).run P w=.ok .skip w'∧oA b w w'∧sp.F i (fun x=>S x∨x=b) (.pointer (some ⟨b,0,none⟩)) w'):mR P ops sp base w0 i o:=by
  unfold mR
  rw[hk]
  refine⟨hg,?_⟩
  intro T' z' t' ρ S w b q1 q2 hc hb hS hI hp hh hn
  rw[Ou]at q1
  rw[ht]at q2
  cases q1
  cases q2
  exact h ρ S w b hc hb hS hI hp hh hn
theorem dF.none {o:Oper} (h:o.guard=.none):dF sp o:=fun g NM hg=>by rw[h]at hg;cases hg
theorem dF.some {o:Oper} {g:Nat} {NM:Bool} (h:o.guard=.some (g,NM)) (hF:∀S v w,sp.F g S v w→v=.bool NM):dF sp o:=fun g' want' hg=>by
  rw[h]at hg
  cases hg
  exact hF
theorem qj.some {o:Oper} {g:Nat} {NM:Bool} (h:o.guard=.some (g,NM)) (hF:∀S v w,sp.F g S v w→v=.bool (!NM)∨v=undef):qj sp o:=⟨g,NM,h,hF⟩
end
open Go
def J1:List (Nat×List (Option FuncId)):=[]
end Go.Proofs.Ytgmpoenfoacofaa
