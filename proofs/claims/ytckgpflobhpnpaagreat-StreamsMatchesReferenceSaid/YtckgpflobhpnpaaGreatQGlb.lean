/- Parts of a proof. -/
import Derived.ChangeOld
import Derived.Deep.RegionLaw
import Derived.KernelRfl
import Derived.Laws.AppendOwnNone
import Derived.Laws.Bits64
import Derived.Laws.BitsAllLaws
import Derived.Laws.CopyOwn
import Derived.Laws.MakeOwn
import Derived.Laws.OwnMore
import Derived.Laws.StructEq
import Derived.Lib.Hide
import Derived.LoopN
import Derived.LoopNIn
import Derived.OpenShut
import Derived.OrdersIn
import Derived.ProofKit
import Derived.RangeFuncCalls
import Derived.RangeFuncRecord
import Derived.ShutString
import Derived.TacticsIn
import Derived.WalkKit
import Derived.WalkLawsBesides
import Derived.WalkSpells
import GoSem.Claim
namespace Go.Proofs.YtckgpflobhpnpaaGreat
open Go.RowKit
set_option linter.unusedVariables false
set_option linter.unusedSimpArgs false
theorem Rz:type_of% @List.getElem?_eq_some_iff:=@List.getElem?_eq_some_iff
theorem RA:type_of% @Bool.and_eq_true:=@Bool.and_eq_true
theorem RB:type_of% @List.getElem?_eq_getElem:=@List.getElem?_eq_getElem
theorem RC:type_of% @List.length_replicate:=@List.length_replicate
theorem RD:type_of% @Nat.le_refl:=@Nat.le_refl
theorem RE:type_of% @if_neg:=@if_neg
theorem RF:type_of% @Result.andThen_ok:=@Result.andThen_ok
theorem RG:type_of% @Sem.run_bind:=@Sem.run_bind
theorem RH:type_of% @if_pos:=@if_pos
theorem RI:type_of% @Prod.mk.injEq:=@Prod.mk.injEq
theorem RJ:type_of% @List.length_map:=@List.length_map
theorem RK:type_of% @List.length_cons:=@List.length_cons
theorem RL:type_of% @List.append_nil:=@List.append_nil
theorem RM:type_of% @Option.some.injEq:=@Option.some.injEq
theorem RN:type_of% @List.length_nil:=@List.length_nil
theorem RO:type_of% @List.map_append:=@List.map_append
theorem RP:type_of% @List.getElem?_append_left:=@List.getElem?_append_left
theorem RQ:type_of% @List.getElem?_set_ne:=@List.getElem?_set_ne
theorem RR:type_of% @List.getElem?_set_self:=@List.getElem?_set_self
theorem RS:type_of% @List.eq_of_mem_replicate:=@List.eq_of_mem_replicate
theorem RT:type_of% @List.getElem?_append_right:=@List.getElem?_append_right
theorem RU:type_of% @Array.getElem?_eq_some_iff:=@Array.getElem?_eq_some_iff
theorem RV:type_of% @List.length_append:=@List.length_append
theorem RX:type_of% @decide_eq_true:=@decide_eq_true
theorem RY:type_of% @Nat.beq_eq:=@Nat.beq_eq
theorem RZ:type_of% @List.length_take:=@List.length_take
theorem R0:type_of% @Array.getElem?_eq_getElem:=@Array.getElem?_eq_getElem
theorem R3:type_of% @List.getElem?_map:=@List.getElem?_map
theorem R4:type_of% @List.map_nil:=@List.map_nil
theorem R5:type_of% @Sem.run_pure:=@Sem.run_pure
theorem R6:type_of% @decide_eq_false:=@decide_eq_false
theorem R7:type_of% @List.all_eq_true:=@List.all_eq_true
theorem R8:type_of% @List.getElem?_take:=@List.getElem?_take
theorem R9:type_of% @Nat.mul_le_mul_right:=@Nat.mul_le_mul_right
theorem Sb:type_of% @List.mem_cons_of_mem:=@List.mem_cons_of_mem
theorem Sd:type_of% @List.length_drop:=@List.length_drop
theorem Se:type_of% @List.mem_cons_self:=@List.mem_cons_self
theorem Sf:type_of% @List.mem_of_getElem?:=@List.mem_of_getElem?
theorem Sh:type_of% @Bool.or_eq_true:=@Bool.or_eq_true
theorem Si:type_of% @Array.getElem?_toList:=@Array.getElem?_toList
theorem Sj:type_of% @Bool.not_eq_true':=@Bool.not_eq_true'
theorem Sk:type_of% @List.getD_eq_getElem?_getD:=@List.getD_eq_getElem?_getD
theorem Sl:type_of% @run_underlying:=@run_underlying
theorem Sm:type_of% @List.getElem?_eq_none:=@List.getElem?_eq_none
theorem So:type_of% @List.eq_nil_of_length_eq_zero:=@List.eq_nil_of_length_eq_zero
theorem Sp:type_of% @Nat.zero_add:=@Nat.zero_add
theorem Sq:type_of% @List.mem_cons:=@List.mem_cons
theorem Sr:type_of% @Option.map_some:=@Option.map_some
theorem Ss:type_of% @List.map_set:=@List.map_set
theorem Su:type_of% @Nat.zero_le:=@Nat.zero_le
theorem Sv:type_of% @List.take_length:=@List.take_length
theorem Sw:type_of% @List.length_set:=@List.length_set
theorem Sx:type_of% @Array.getD_eq_getD_getElem?:=@Array.getD_eq_getD_getElem?
theorem Sy:type_of% @decide_eq_true_eq:=@decide_eq_true_eq
theorem Sz:type_of% @Int.eq_ofNat_of_zero_le:=@Int.eq_ofNat_of_zero_le
theorem SA:type_of% @Nat.lt_of_lt_of_le:=@Nat.lt_of_lt_of_le
theorem SB:type_of% @List.append_assoc:=@List.append_assoc
theorem SC:type_of% @Bool.false_eq_true:=@Bool.false_eq_true
theorem SD:type_of% @List.mem_range:=@List.mem_range
theorem SE:type_of% @Array.getElem?_setIfInBounds_ne:=@Array.getElem?_setIfInBounds_ne
theorem SF:type_of% @heap_alloc_new:=@heap_alloc_new
theorem SG:type_of% @Nat.le_trans:=@Nat.le_trans
theorem SI:type_of% @Decidable.byContradiction:=@Decidable.byContradiction
theorem SJ:type_of% @List.map_cons:=@List.map_cons
theorem SK:type_of% @List.mem_append:=@List.mem_append
theorem SL:type_of% @Nat.succ_mul:=@Nat.succ_mul
theorem SM:type_of% @Nat.ble_eq:=@Nat.ble_eq
theorem SN:type_of% @List.cons.injEq:=@List.cons.injEq
theorem SO:type_of% @List.count_cons:=@List.count_cons
theorem SP:type_of% @Array.getElem?_map:=@Array.getElem?_map
theorem SQ:type_of% @Int.toNat_natCast:=@Int.toNat_natCast
theorem SR:type_of% @List.getElem?_replicate:=@List.getElem?_replicate
theorem SS:type_of% @List.foldl_append:=@List.foldl_append
theorem ST:type_of% @of_decide_eq_true:=@of_decide_eq_true
theorem SU:type_of% @Int.tmod_eq_emod_of_nonneg:=@Int.tmod_eq_emod_of_nonneg
theorem SV:type_of% @List.getElem?_drop:=@List.getElem?_drop
theorem SW:type_of% @World.grownBy_alloc:=@World.grownBy_alloc
theorem SX:type_of% @Nat.pow_le_pow_right:=@Nat.pow_le_pow_right
theorem SY:type_of% @Nat.add_zero:=@Nat.add_zero
theorem SZ:type_of% @List.getElem_cons_zero:=@List.getElem_cons_zero
theorem S4:type_of% @List.getElem_cons_succ:=@List.getElem_cons_succ
theorem S5:type_of% @Array.getElem?_push:=@Array.getElem?_push
theorem S6:type_of% @List.take_succ_cons:=@List.take_succ_cons
theorem S7:type_of% @Bool.and_false:=@Bool.and_false
theorem S8:type_of% @List.drop_zero:=@List.drop_zero
theorem S9:type_of% @List.mem_append_right:=@List.mem_append_right
theorem Ta:type_of% @List.mem_filter:=@List.mem_filter
theorem Tb:type_of% @List.getElem_toArray:=@List.getElem_toArray
theorem Tc:type_of% @Bool.true_and:=@Bool.true_and
theorem Td:type_of% @World.ownsRow_nil:=@World.ownsRow_nil
theorem Te:type_of% @Int.toNat_of_nonneg:=@Int.toNat_of_nonneg
theorem Tf:type_of% @List.getElem_of_mem:=@List.getElem_of_mem
theorem Tg:type_of% @List.drop_succ_cons:=@List.drop_succ_cons
theorem Th:type_of% @List.take_of_length_le:=@List.take_of_length_le
theorem Ti:type_of% @if_false:=@if_false
theorem Tj:type_of% @if_true:=@if_true
theorem Tl:type_of% @List.map_toArray:=@List.map_toArray
theorem Tm:type_of% @List.ext_getElem:=@List.ext_getElem
theorem Tn:type_of% @Option.bind_some:=@Option.bind_some
theorem To:type_of% @List.cons_append:=@List.cons_append
theorem Tp:type_of% @List.getElem_mem:=@List.getElem_mem
theorem Tq:type_of% @List.filter_append:=@List.filter_append
theorem Tr:type_of% @Bool.and_true:=@Bool.and_true
theorem Ts:type_of% @List.mem_singleton:=@List.mem_singleton
theorem Tt:type_of% @Nat.mul_le_mul:=@Nat.mul_le_mul
theorem Tu:type_of% @List.mem_append_left:=@List.mem_append_left
theorem Tv:type_of% @Array.mem_toList_iff:=@Array.mem_toList_iff
theorem Tw:type_of% @World.cell?_of_block:=@World.cell?_of_block
theorem Tx:type_of% @Int.emod_nonneg:=@Int.emod_nonneg
theorem Ty:type_of% @Bool.eq_false_iff:=@Bool.eq_false_iff
theorem Tz:type_of% @Nat.not_lt_zero:=@Nat.not_lt_zero
theorem TA:type_of% @Array.ext':=@Array.ext'
theorem TB:type_of% @Oper.upon_enter:=@Oper.upon_enter
theorem TC:type_of% @List.set_eq_of_length_le:=@List.set_eq_of_length_le
theorem TD:type_of% @List.all_cons:=@List.all_cons
theorem TE:type_of% @Nat.mul_le_mul_left:=@Nat.mul_le_mul_left
theorem TF:type_of% @Nat.add_sub_cancel_left:=@Nat.add_sub_cancel_left
theorem TG:type_of% @List.getElem?_cons_zero:=@List.getElem?_cons_zero
theorem TH:type_of% @Bool.not_eq_true:=@Bool.not_eq_true
theorem TI:type_of% @List.count_eq_zero:=@List.count_eq_zero
theorem TJ:type_of% @Int.emod_lt_of_pos:=@Int.emod_lt_of_pos
theorem TK:type_of% @List.nil_append:=@List.nil_append
theorem TL:type_of% @List.range_succ:=@List.range_succ
theorem TM:type_of% @Nat.beq_refl:=@Nat.beq_refl
theorem TN:type_of% @List.size_toArray:=@List.size_toArray
theorem TO:type_of% @Ne.symm:=@Ne.symm
theorem TP:type_of% @List.take_zero:=@List.take_zero
theorem TQ:type_of% @Array.length_toList:=@Array.length_toList
theorem TR:type_of% @List.map_congr_left:=@List.map_congr_left
theorem TS:type_of% @Nat.blt_eq:=@Nat.blt_eq
theorem TU:type_of% @Nat.min_eq_left:=@Nat.min_eq_left
theorem TV:type_of% @List.filter_nil:=@List.filter_nil
theorem TW:type_of% @List.take_left:=@List.take_left
theorem TX:type_of% @List.mem_map:=@List.mem_map
theorem TY:type_of% @List.map_map:=@List.map_map
theorem TZ:type_of% @Nat.add_mul:=@Nat.add_mul
theorem T3:type_of% @and_true:=@and_true
def ge (F:(Nat→Prop)→Value→World→Prop):Prop :=
  ∀(S S':Nat→Prop) (v:Value) (w w':World),F S v w→(∀b,S b→b<w.heap.size→S' b) →
    (∀b,S b→b<w.heap.size→w'.heap[b]?=w.heap[b]?)→w.heap.size≤w'.heap.size→F S' v w'
def pu (P:Program) (R:Value→World→Prop):Result Next→Prop
  | .ok (.value v) w'=>R v w'
  | .ok .skip w'=>R undef w'
  | .ok (.enter f args) w'=>Calls P f args w' (fun e w''=>∃v,e=.returned v∧R v w'')
  | _=>False
theorem pu.upon {P:Program} {R:Value→World→Prop} {o:Oper} {a:Act} {next:Act→World→Prop} {Q:Exit→Act→World→Prop} {r:Result Next}
    (h:pu P R r) (hn:∀v w',R v w'→next (a.put o.dst v) w'):o.upon P a next Q r:=by
  cases r with
  | ok n w' =>
    cases n<;>simp only[pu]at h
    case value v=>exact hn _ _ h
    case skip=>exact hn _ _ h
    case enter f args =>
      refine h.mono ?_
      rintro e w'' ⟨v,rfl,hr⟩
      exact hn _ _ hr
  | halt x w'=>simp only[pu]at h
theorem pu.ok {P:Program} {R:Value→World→Prop} {v:Value} {w':World} (h:R v w'):pu P R (.ok (.value v) w'):=h
theorem pu.enter {P:Program} {R:Value→World→Prop} {f:FuncId} {args:Array Value} {w':World} (h:Calls P f args w' (fun e w''=>∃v,e=.returned v∧R v w'')):pu P R (.ok (.enter f args) w'):=h
theorem pu.of {P:Program} {R:Value→World→Prop} {r:Result Next} {v:Value} {w':World} (h:r=.ok (.value v) w') (hR:R v w'):pu P R r:=by
  rw[h];exact hR
attribute [irreducible] pu
inductive tn where
  | grow
  | skip
  | alloc (T:TypeId) (zero:Array Value)
  | fill (j:Nat)
def tn.isAlloc:tn→Bool | .alloc _ _=>true | _=>false
def tn.who:tn→Nat→Nat | .fill j,_=>j | _,i=>i
structure tp where
  K:Nat→tn
  F:Nat→(Nat→Prop)→Value→World→Prop
  ins:Nat→List (Tmp×Option Nat)
section
variable (P:Program) (ops:Array Oper) (sp:tp) (base:Act) (w0:World)
def DV (i j:Nat):Bool:=match ops[i]? with | some o=>o.after.any (fun e=>Region.binds .any e&&e.on==j) | none=>false
def yA:Nat→Nat→Nat→Bool
  | 0,i,j=>DV ops i j
  | f+1,i,j=>DV ops i j||(match ops[i]? with | some o=>o.after.any (fun e=>Nat.blt j e.on&&Region.binds .any e&&yA f e.on j) | none=>false)
abbrev df (i j:Nat):Bool:=yA ops 12 i j
def jt (i:Nat):Option Tmp:=(ops[i]?).bind (·.dst)
def kT (i:Nat) (j:Option Nat) (t:Tmp):Bool :=
  (List.range ops.size).all fun k=>jt ops k != some t||k==i||some k==j||df ops k i||(match j with | some j=>df ops j k | none=>false)
def N1 (i:Nat) (p:Tmp×Option Nat):Bool :=
  match p.2 with
  | none=>kT ops i none p.1
  | some k=>match sp.K k with
    | .fill j=>jt ops j==some p.1&&df ops i j&&df ops i k&&kT ops i (some j) p.1
    | .alloc _ _=>false
    | _=>jt ops k==some p.1&&df ops i k&&kT ops i (some k) p.1
def He (i:Nat):Bool :=
  (match ops[i]? with
   | some o=>o.after.all (fun e=>!Region.binds .any e||decide (e.on<i)) &&
      (match o.dst with
       | some t=>decide (t<base.tmps.size)&&(List.range i).all (fun k=>jt ops k != some t||df ops i k)
       | none=>true) &&
      (match o.guard with
       | some (g,_)=>df ops i g&&(match jt ops g with | some t=>kT ops i (some g) t | none=>false)&&(match sp.K g with | .alloc _ _=>false | .fill _=>false | _=>true)
       | none=>true)
   | none=>true) &&
  (sp.ins i).all (N1 ops sp i) &&
  (match sp.K i with
   | .fill j=>df ops i j&&(match jt ops j with | some t=>kT ops i (some j) t | none=>false)&&(sp.K j).isAlloc&&(jt ops i==none) &&
      (List.range ops.size).all (fun k=>k==i||(match sp.K k with | .fill j'=>j' != j | _=>true))
   | .skip=>true
   | _=>true)
def LC:Bool:=(List.range ops.size).all (He ops sp base)
def j8 (ρ:Operand→Value) (S:Nat→Prop) (w:World):List (Tmp×Option Nat)→Prop
  | []=>True
  | (t,none)::r=>ρ (.tmp t)=base.tmps.getD t undef∧j8 ρ S w r
  | (t,some k)::r=>sp.F k S (ρ (.tmp t)) w∧j8 ρ S w r
structure si (b:Nat) (w w':World):Prop where
  os:w'.os=w.os
  tape:w'.tape=w.tape
  output:w'.output=w.output
  size:w'.heap.size=w.heap.size
  block:∀k,k≠b→w'.heap[k]?=w.heap[k]?
def fe (o:Oper):Prop:=∀g Ve,o.guard=some (g,Ve)→∀S v w,sp.F g S v w→v=.bool Ve
def t9 (o:Oper):Prop:=∃g Ve,o.guard=some (g,Ve)∧∀S v w,sp.F g S v w→v=.bool (!Ve)∨v=undef
structure yB (ρ:Operand→Value):Prop where
  const:∀v,ρ (.const v)=v
  func:∀f,ρ (.func f)=.func (.func f) #[] #[]
  global:∀g,ρ (.global g)=.pointer (some ⟨g,0,none⟩)
def qA (i:Nat) (o:Oper):Prop :=
  match sp.K i with
  | .grow=>fe sp o∧∀ρ S w,yB ρ→Below w0.heap.size w0 w→(∀b,b<w0.heap.size→S b)→j8 sp base ρ S w (sp.ins i) →
      pu P (fun v w'=>Below w.heap.size w w'∧sp.F i (fun b=>S b∨w.heap.size≤b) v w') ((execOp ρ o).run P w)
  | .skip=>t9 sp o∧∀S w,sp.F i S undef w
  | .alloc T z=>fe sp o∧∀ρ w,(execOp ρ o).run P w=.ok (.value (.pointer (some ⟨w.heap.size,0,none⟩))) (w.alloc (.cells z T))
  | .fill j=>fe sp o∧∀T z t ρ S w b,sp.K j=.alloc T z→jt ops j=some t→yB ρ→Below w0.heap.size w0 w→(∀b,b<w0.heap.size→S b)→j8 sp base ρ S w (sp.ins i) →
      ρ (.tmp t)=.pointer (some ⟨b,0,none⟩)→w.heap[b]?=some (.cells z T)→¬S b →
      ∃w',(execOp ρ o).run P w=.ok .skip w'∧si b w w'∧sp.F i (fun x=>S x∨x=b) (.pointer (some ⟨b,0,none⟩)) w'
structure mC (C':Array Bool) (env:Nat→Value) (a:Act):Prop where
  lsize:C'.size=ops.size
  closed:∀i o,C'.getD i false=true→ops[i]?=some o→∀e∈o.after,Region.binds .any e=true→C'.getD e.on false=true
  defers:a.defers=base.defers
  tsize:a.tmps.size=base.tmps.size
  slots:∀t,(∀k,C'.getD k false=true→jt ops k≠some t)→a.tmps[t]?=base.tmps[t]?
  vals:∀j t,C'.getD j false=true→jt ops j=some t→(∀k,C'.getD k false=true→jt ops k=some t→k≠j→df ops j k=true)→a.tmps[t]?=some (env j)
structure yC (C':Array Bool) (env:Nat→Value) (S:Nat→Prop) (w:World):Prop where
  below:Below w0.heap.size w0 w
  sbase:∀b,b<w0.heap.size→S b
  slt:∀b,S b→b<w.heap.size
  facts:∀j,C'.getD j false=true→(sp.K j).isAlloc=false→sp.F j S (env ((sp.K j).who j)) w
  priv:∀j T z,C'.getD j false=true→sp.K j=.alloc T z→(∀k,C'.getD k false=true→sp.K k≠.fill j) →
    ∃b,env j=.pointer (some ⟨b,0,none⟩)∧¬S b∧w.heap[b]?=some (.cells z T)
  ptrs:∀j T z,C'.getD j false=true→sp.K j=.alloc T z→∃b,env j=.pointer (some ⟨b,0,none⟩)∧w0.heap.size≤b∧b<w.heap.size
  apart:∀j j' T z T' z' b,C'.getD j false=true→C'.getD j' false=true→sp.K j=.alloc T z→sp.K j'=.alloc T' z'→env j=.pointer (some ⟨b,0,none⟩)→env j'=.pointer (some ⟨b,0,none⟩)→j=j'
end
section
variable {P:Program} {ops:Array Oper} {sp:tp} {base:Act} {w0:World}
theorem ba (l:Array Bool) (i k:Nat) (hi:i<l.size):(l.setIfInBounds i true).getD k false=(if k=i then true else l.getD k false):=by
  by_cases h:k=i
  · subst h;simp[hi]
  · rw[RE h]
    simp only[Sx]
    rw[SE (fun e=>h e.symm)]
theorem qB {C':Array Bool} {i j:Nat} (hc:∀o,ops[i]?=some o→∀e∈o.after,Region.binds .any e=true→C'.getD e.on false=true)
    (h:DV ops i j=true):C'.getD j false=true:=by
  unfold DV at h
  split at h
  · rename_i o ho
    simp only[Array.any_eq_true',RA,beq_iff_eq]at h
    obtain⟨e,he,hb,rfl⟩:=h
    exact hc o ho e he hb
  · cases h
theorem gI {C':Array Bool} (hcl:∀i o,C'.getD i false=true→ops[i]?=some o→∀e∈o.after,Region.binds .any e=true→C'.getD e.on false=true) :
    ∀(f i j:Nat),(∀o,ops[i]?=some o→∀e∈o.after,Region.binds .any e=true→C'.getD e.on false=true)→yA ops f i j=true→C'.getD j false=true:=by
  intro f
  induction f with
  | zero=>intro i j hc h;exact qB hc h
  | succ f ih =>
    intro i j hc h
    simp only[yA,Sh]at h
    rcases h with h | h
    · exact qB hc h
    · split at h
      · rename_i o ho
        simp only[Array.any_eq_true',RA]at h
        obtain⟨e,he,⟨_,hb⟩,h⟩:=h
        exact ih e.on j (fun o' Vx=>hcl e.on o' (hc o ho e he hb) Vx) h
      · cases h
structure JZ (ops:Array Oper) (sp:tp) (base:Act):Prop where
  top:∀i o,ops[i]?=some o→∀e∈o.after,Region.binds .any e=true→e.on<i
  writes:∀i t,jt ops i=some t→t<base.tmps.size∧∀k,k<i→jt ops k=some t→df ops i k=true
  guard:∀i o g Ve,ops[i]?=some o→o.guard=some (g,Ve)→df ops i g=true∧(sp.K g).isAlloc=false∧(sp.K g).who g=g∧∃t,jt ops g=some t∧kT ops i (some g) t=true
  ins:∀i,i<ops.size→∀p∈sp.ins i,N1 ops sp i p=true
  fill:∀i j,i<ops.size→sp.K i=.fill j→df ops i j=true∧(∃t,jt ops j=some t∧kT ops i (some j) t=true)∧(sp.K j).isAlloc=true∧jt ops i=none∧∀k,k<ops.size→sp.K k=.fill j→k=i
theorem AC (h:LC ops sp base=true):JZ ops sp base:=by
  unfold LC at h
  simp only[R7,SD]at h
  have lt:∀i o,ops[i]?=some o→i<ops.size:=fun i o ho=>(RU.1 ho).1
  refine⟨?_,?_,?_,?_,?_⟩
  · intro i o ho e he hb
    have:=h i (lt i o ho)
    unfold He at this
    simp only[ho,RA,Array.all_eq_true',Sh,Sj,Sy]at this
    have h2:=this.1.1.1.1 e he
    rcases h2 with h2 | h2
    · rw[hb]at h2;cases h2
    · exact h2
  · intro i t ht
    unfold jt at ht
    cases ho:ops[i]? with
    | none=>rw[ho]at ht;cases ht
    | some o =>
      rw[ho]at ht
      simp only[Tn]at ht
      have:=h i (lt i o ho)
      unfold He at this
      simp only[ho,ht,RA,Sy,R7,SD,Sh,bne_iff_ne]at this
      refine⟨this.1.1.1.2.1,fun k hk W9=>?_⟩
      have h2:=this.1.1.1.2.2 k hk
      exact h2.resolve_left (fun Vh=>Vh W9)
  · intro i o g Ve ho hg
    have:=h i (lt i o ho)
    unfold He at this
    simp only[ho,hg,RA]at this
    obtain⟨⟨h1,h2⟩,h3⟩:=this.1.1.2
    refine⟨h1,?_,?_,?_⟩
    · cases hk:sp.K g<;>simp[hk,tn.isAlloc]at h3 ⊢
    · cases hk:sp.K g<;>simp[hk,tn.who]at h3 ⊢
    · cases ht:jt ops g with
      | none=>simp[ht]at h2
      | some t=>exact⟨t,rfl,by simpa[ht]using h2⟩
  · intro i hi p hp
    have:=h i hi
    unfold He at this
    simp only[RA,R7]at this
    exact this.1.2 p hp
  · intro i j hi hk
    have:=h i hi
    unfold He at this
    simp only[hk,RA,R7,SD,Sh,beq_iff_eq]at this
    obtain⟨⟨⟨⟨h1,h2⟩,h3⟩,h4⟩,h5⟩:=this.2
    refine⟨h1,?_,h3,h4,fun k UX Xt=>?_⟩
    · cases ht:jt ops j with
      | none=>simp[ht]at h2
      | some t=>exact⟨t,rfl,by simpa[ht]using h2⟩
    · rcases h5 k UX with h6 | h6
      · exact h6
      · rw[Xt]at h6;simp at h6
theorem xi (a:Act) (d:Option Tmp) (v:Value) (t:Tmp) (h:d≠some t):(a.put d v).tmps[t]?=a.tmps[t]?:=by
  cases d with
  | none=>rfl
  | some d=>exact SE (fun e=>h (by rw[e]))
theorem Hf (a:Act) (v:Value) (t:Tmp) (h:t<a.tmps.size):(a.put (some t) v).tmps[t]?=some v:=by
  simp[Act.put,h]
theorem Hg (a:Act) (d:Option Tmp) (v:Value):(a.put d v).tmps.size=a.tmps.size:=by
  cases d<;>simp[Act.put]
theorem AD (a:Act) (d:Option Tmp) (v:Value):(a.put d v).defers=a.defers:=by
  cases d<;>rfl
theorem mC.step (Vj:JZ ops sp base) {C':Array Bool} {env:Nat→Value} {a:Act} (hF:mC ops base C' env a) {i:Nat} {o:Oper} (hi:ops[i]?=some o)
    (UU:C'.getD i false=false) (hr:∀e∈o.after,Region.binds .any e=true→C'.getD e.on false=true) (v:Value) :
    mC ops base (C'.setIfInBounds i true) (fun k=>if k=i then v else env k) (a.put o.dst v):=by
  have Un:i<C'.size:=by rw[hF.lsize];exact(RU.1 hi).1
  have hd:jt ops i=o.dst:=by simp[jt,hi]
  refine⟨by simpa using hF.lsize,?_,by rw[AD];exact hF.defers,by rw[Hg];exact hF.tsize,?_,?_⟩
  · intro k ok hk YZ e he hb
    rw[ba _ _ _ Un]at hk ⊢
    split
    · rfl
    · by_cases Vy:k=i
      · subst Vy
        rw[hi]at YZ
        cases YZ
        exact hr e he hb
      · rw[RE Vy]at hk
        exact hF.closed k ok hk YZ e he hb
  · intro t ht
    have h1:o.dst≠some t:=by
      have:=ht i (by rw[ba _ _ _ Un,RH rfl])
      rwa [hd]at this
    rw[xi _ _ _ _ h1]
    refine hF.slots t (fun k hk=>ht k ?_)
    rw[ba _ _ _ Un]
    split
    · rfl
    · exact hk
  · intro j t hj hjt hw
    by_cases U3:j=i
    · subst U3
      rw[hd]at hjt
      simp only[Tj,hjt]
      refine Hf _ _ _ ?_
      rw[hF.tsize]
      exact(Vj.writes j t (by rw[hd];exact hjt)).1
    · rw[ba _ _ _ Un,RE U3]at hj
      have h1:o.dst≠some t:=by
        intro h1
        have hb:=hw i (by rw[ba _ _ _ Un,RH rfl]) (by rw[hd];exact h1) (fun e=>U3 e.symm)
        have:=gI hF.closed 12 j i (fun oj hoj=>hF.closed j oj hj hoj) hb
        rw[UU]at this
        cases this
      rw[xi _ _ _ _ h1]
      simp only[RE U3]
      refine hF.vals j t hj hjt (fun k hk W9 hkj=>hw k ?_ W9 hkj)
      rw[ba _ _ _ Un]
      split
      · rfl
      · exact hk
theorem Cq (Vj:JZ ops sp base) {C':Array Bool} {env:Nat→Value} {a:Act} (hF:mC ops base C' env a) {i k:Nat} (UU:C'.getD i false=false) (hk:C'.getD k false=true):(sp.K k).who k≠i:=by
  have Vy:k≠i:=by rintro rfl;rw[UU]at hk;cases hk
  cases Xt:sp.K k with
  | fill j =>
    simp only[tn.who]
    rintro rfl
    have Un:k<ops.size:=by
      rw[← hF.lsize]
      refine SI fun hn=>?_
      simp[Array.getD,hn]at hk
    have hb:=(Vj.fill k j Un Xt).1
    have:=gI hF.closed 12 k j (fun o' Vx=>hF.closed k o' hk Vx) hb
    rw[UU]at this;cases this
  | grow=>exact Vy
  | skip=>exact Vy
  | alloc T z=>exact Vy
theorem yC.grow (Vj:JZ ops sp base) (Uz:∀j,ge (sp.F j)) {C':Array Bool} {env:Nat→Value} {S:Nat→Prop} {a:Act} {w w':World} (hF:mC ops base C' env a) (hM:yC sp w0 C' env S w) {i:Nat}
    (Un:i<C'.size) (UU:C'.getD i false=false) (hk:sp.K i=.grow∨sp.K i=.skip) {v:Value} (hb:Below w.heap.size w w') (hf:sp.F i (fun b=>S b∨w.heap.size≤b) v w') :
    yC sp w0 (C'.setIfInBounds i true) (fun k=>if k=i then v else env k) (fun b=>S b∨(w.heap.size≤b∧b<w'.heap.size)) w':=by
  have hwi:(sp.K i).who i=i:=by rcases hk with hk | hk<;>rw[hk]<;>rfl
  have YB:∀T z,sp.K i≠.alloc T z:=by rcases hk with hk | hk<;>rw[hk]<;>simp
  have hN:=hM.below.size
  refine⟨hM.below.trans (hb.mono hN),fun b h=>.inl (hM.sbase b h),?_,?_,?_,?_,?_⟩
  · rintro b (h | h)
    · exact SA (hM.slt b h) hb.size
    · exact h.2
  · intro j hj UL
    by_cases U3:j=i
    · subst U3
      rw[hwi]
      simp only[Tj]
      exact Uz j _ _ _ _ _ hf (fun b h hl=>h.imp id (fun h=>⟨h,hl⟩)) (fun _ _ _=>rfl) (RD _)
    · rw[ba _ _ _ Un,RE U3]at hj
      rw[RE (Cq Vj hF UU hj)]
      exact Uz j _ _ _ _ _ (hM.facts j hj UL) (fun b h _=>.inl h) (fun b _ h=>hb.block b h) hb.size
  · intro j T z hj UX Xy
    by_cases U3:j=i
    · subst U3;exact absurd UX (YB _ _)
    · rw[ba _ _ _ Un,RE U3]at hj
      obtain⟨b,h1,h2,h3⟩:=hM.priv j T z hj UX (fun k hk=>Xy k (by rw[ba _ _ _ Un];split<;>first | rfl | exact hk))
      have W0:b<w.heap.size:=(RU.1 h3).1
      refine⟨b,by rw[RE U3];exact h1,?_,by rw[hb.block b W0];exact h3⟩
      rintro(h | h)
      · exact h2 h
      · omega
  · intro j T z hj UX
    by_cases U3:j=i
    · subst U3;exact absurd UX (YB _ _)
    · rw[ba _ _ _ Un,RE U3]at hj
      obtain⟨b,h1,h2,h3⟩:=hM.ptrs j T z hj UX
      exact⟨b,by rw[RE U3];exact h1,h2,SA h3 hb.size⟩
  · intro j j' T z T' z' b hj Yd WY V0 h1 h2
    have U3:j≠i:=by rintro rfl;exact YB _ _ WY
    have Wg:j'≠i:=by rintro rfl;exact YB _ _ V0
    rw[ba _ _ _ Un,RE U3]at hj
    rw[ba _ _ _ Un,RE Wg]at Yd
    rw[RE U3]at h1
    rw[RE Wg]at h2
    exact hM.apart j j' T z T' z' b hj Yd WY V0 h1 h2
theorem yC.alloc (Vj:JZ ops sp base) (Uz:∀j,ge (sp.F j)) {C':Array Bool} {env:Nat→Value} {S:Nat→Prop} {a:Act} {w:World} (hF:mC ops base C' env a) (hM:yC sp w0 C' env S w) {i:Nat}
    (Un:i<C'.size) (UU:C'.getD i false=false) {T:TypeId} {z:Array Value} (hk:sp.K i=.alloc T z) :
    yC sp w0 (C'.setIfInBounds i true) (fun k=>if k=i then .pointer (some ⟨w.heap.size,0,none⟩)else env k) S (w.alloc (.cells z T)):=by
  have hN:=hM.below.size
  have Ul:(w.alloc (.cells z T)).heap.size=w.heap.size+1:=by simp
  refine⟨hM.below.alloc hN _,hM.sbase,fun b h=>by have:=hM.slt b h;omega,?_,?_,?_,?_⟩
  · intro j hj UL
    by_cases U3:j=i
    · subst U3;rw[hk]at UL;cases UL
    · rw[ba _ _ _ Un,RE U3]at hj
      rw[RE (Cq Vj hF UU hj)]
      exact Uz j _ _ _ _ _ (hM.facts j hj UL) (fun b h _=>h) (fun b _ h=>Below.heap_alloc w _ b h) (by omega)
  · intro j T' z' hj UX Xy
    by_cases U3:j=i
    · subst U3
      rw[hk]at UX
      cases UX
      exact⟨w.heap.size,by simp,fun h=>by have:=hM.slt _ h;omega,SF w _⟩
    · rw[ba _ _ _ Un,RE U3]at hj
      obtain⟨b,h1,h2,h3⟩:=hM.priv j T' z' hj UX (fun k hk=>Xy k (by rw[ba _ _ _ Un];split<;>first | rfl | exact hk))
      have W0:b<w.heap.size:=(RU.1 h3).1
      exact⟨b,by rw[RE U3];exact h1,h2,by rw[Below.heap_alloc w _ b W0];exact h3⟩
  · intro j T' z' hj UX
    by_cases U3:j=i
    · subst U3
      exact⟨w.heap.size,by simp,hN,by omega⟩
    · rw[ba _ _ _ Un,RE U3]at hj
      obtain⟨b,h1,h2,h3⟩:=hM.ptrs j T' z' hj UX
      exact⟨b,by rw[RE U3];exact h1,h2,by omega⟩
  · intro j j' T1 z1 T' z' b hj Yd WY V0 h1 h2
    have old:∀k T2 z2,k≠i→(C'.setIfInBounds i true).getD k false=true→sp.K k=.alloc T2 z2→env k=.pointer (some ⟨b,0,none⟩)→b<w.heap.size:=by
      intro k T2 z2 Vy VB Xt he
      rw[ba _ _ _ Un,RE Vy]at VB
      obtain⟨b',h1,h2,h3⟩:=hM.ptrs k T2 z2 VB Xt
      rw[h1]at he
      simp at he
      omega
    by_cases U3:j=i
    · by_cases Wg:j'=i
      · rw[U3,Wg]
      · rw[RH U3]at h1
        rw[RE Wg]at h2
        have:=old j' _ _ Wg Yd V0 h2
        simp only[Value.pointer.injEq,RM,Addr.mk.injEq]at h1
        omega
    · by_cases Wg:j'=i
      · rw[RE U3]at h1
        rw[RH Wg]at h2
        have:=old j _ _ U3 hj WY h1
        simp only[Value.pointer.injEq,RM,Addr.mk.injEq]at h2
        omega
      · rw[ba _ _ _ Un,RE U3]at hj
        rw[ba _ _ _ Un,RE Wg]at Yd
        rw[RE U3]at h1
        rw[RE Wg]at h2
        exact hM.apart j j' _ _ _ _ b hj Yd WY V0 h1 h2
theorem yC.fill (Vj:JZ ops sp base) (Uz:∀j,ge (sp.F j)) {C':Array Bool} {env:Nat→Value} {S:Nat→Prop} {a:Act} {w w':World} (hF:mC ops base C' env a) (hM:yC sp w0 C' env S w) {i j0:Nat}
    (Un:i<C'.size) (hlo:i<ops.size) (UU:C'.getD i false=false) (hk:sp.K i=.fill j0) {b0:Nat} (ZF:C'.getD j0 false=true) {T0:TypeId} {z0:Array Value} (hk0:sp.K j0=.alloc T0 z0)
    (he:env j0=.pointer (some ⟨b0,0,none⟩)) (W7:¬S b0) (hb:si b0 w w')
    (hf:sp.F i (fun x=>S x∨x=b0) (.pointer (some ⟨b0,0,none⟩)) w') (v:Value) :
    yC sp w0 (C'.setIfInBounds i true) (fun k=>if k=i then v else env k) (fun x=>S x∨x=b0) w':=by
  have Wl:w0.heap.size≤b0∧b0<w.heap.size:=by
    obtain⟨b,h1,h2,h3⟩:=hM.ptrs j0 T0 z0 ZF hk0
    rw[he]at h1
    simp at h1
    omega
  have hs:∀b,S b→w'.heap[b]?=w.heap[b]?:=fun b h=>hb.block b (fun e=>W7 (e ▸ h))
  refine⟨hM.below.trans ⟨hb.os,hb.tape,hb.output,by rw[hb.size];exact RD _,fun k hk=>hb.block k (by omega)⟩,fun b h=>.inl (hM.sbase b h),?_,?_,?_,?_,?_⟩
  · rintro b (h | h)
    · rw[hb.size];exact hM.slt b h
    · rw[hb.size,h];exact Wl.2
  · intro j hj UL
    by_cases U3:j=i
    · subst U3
      have hj0i:j0≠j:=by rintro rfl;rw[UU]at ZF;cases ZF
      rw[hk]
      show sp.F j _ (if j0=j then v else env j0) w'
      rw[RE hj0i,he]
      exact hf
    · rw[ba _ _ _ Un,RE U3]at hj
      rw[RE (Cq Vj hF UU hj)]
      exact Uz j _ _ _ _ _ (hM.facts j hj UL) (fun b h _=>.inl h) (fun b h _=>hs b h) (by rw[hb.size];exact RD _)
  · intro j T z hj UX Xy
    have U3:j≠i:=by rintro rfl;rw[hk]at UX;cases UX
    rw[ba _ _ _ Un,RE U3]at hj
    have hjj:j≠j0:=by
      rintro rfl
      exact Xy i (by rw[ba _ _ _ Un,RH rfl]) hk
    obtain⟨b,h1,h2,h3⟩:=hM.priv j T z hj UX (fun k hk=>Xy k (by rw[ba _ _ _ Un];split<;>first | rfl | exact hk))
    have hbb:b≠b0:=by
      rintro rfl
      exact hjj (hM.apart j j0 _ _ _ _ b hj ZF UX hk0 h1 he)
    refine⟨b,by rw[RE U3];exact h1,?_,by rw[hb.block b hbb];exact h3⟩
    rintro(h | h)
    · exact h2 h
    · exact hbb h
  · intro j T z hj UX
    have U3:j≠i:=by rintro rfl;rw[hk]at UX;cases UX
    rw[ba _ _ _ Un,RE U3]at hj
    obtain⟨b,h1,h2,h3⟩:=hM.ptrs j T z hj UX
    exact⟨b,by rw[RE U3];exact h1,h2,by rw[hb.size];exact h3⟩
  · intro j j' T z T' z' b hj Yd WY V0 h1 h2
    have U3:j≠i:=by rintro rfl;rw[hk]at WY;cases WY
    have Wg:j'≠i:=by rintro rfl;rw[hk]at V0;cases V0
    rw[ba _ _ _ Un,RE U3]at hj
    rw[ba _ _ _ Un,RE Wg]at Yd
    rw[RE U3]at h1
    rw[RE Wg]at h2
    exact hM.apart j j' T z T' z' b hj Yd WY V0 h1 h2
def Az (C':Array Bool):Nat→Nat
  | 0=>0
  | n+1=>Az C' n+(if C'.getD n false then 0 else 1)
theorem AE (C':Array Bool):∀n,Az C' n=0→∀i,i<n→C'.getD i false=true
  | 0,_,i,hi=>by omega
  | n+1,h,i,hi=>by
    simp only[Az]at h
    by_cases hin:i=n
    · subst hin
      cases hl:C'.getD i false
      · rw[hl]at h;simp at h
      · rfl
    · exact AE C' n (by omega) i (by omega)
theorem DW (C':Array Bool) (i:Nat) (hi:i<C'.size) (UU:C'.getD i false=false):∀n,Az (C'.setIfInBounds i true) n+(if i<n then 1 else 0)=Az C' n
  | 0=>by simp[Az]
  | n+1=>by
    have ih:=DW C' i hi UU n
    simp only[Az]
    rw[ba _ _ _ hi]
    by_cases hin:n=i
    · subst hin
      simp only[Tj,UU]at ih ⊢
      simp at ih ⊢
      exact ih
    · rw[RE hin]
      have e:(if i<n+1 then 1 else 0)=(if i<n then 1 else 0):=by
        by_cases h1:i<n
        · rw[RH h1,RH (by omega)]
        · rw[RE h1,RE (by omega)]
      rw[e]
      omega
theorem dK (C':Array Bool) (hs:C'.size=ops.size) (i:Nat):i∈Region.ready .any ops C' ↔
    C'.getD i false=false∧∃o,ops[i]?=some o∧∀e∈o.after,Region.binds .any e=true→C'.getD e.on false=true:=by
  unfold Region.ready
  simp only[Ta,SD,RA,Sj]
  constructor
  · rintro⟨hi,h1,h2⟩
    have ho:ops[i]?=some ops[i]:=R0 hi
    refine⟨?_,_,ho,?_⟩
    · have:i<C'.size:=by omega
      simp[this]at h1 ⊢
      exact h1
    · rw[ho]at h2
      simp only[Sr,Option.getD_some,Array.all_eq_true',Sh,Sj]at h2
      intro e he hb
      have:=h2 e he
      rw[hb]at this
      simpa using this
  · rintro⟨h1,o,ho,h2⟩
    have hi:i<ops.size:=(RU.1 ho).1
    refine⟨hi,?_,?_⟩
    · have:i<C'.size:=by omega
      simp[this]at h1 ⊢
      exact h1
    · rw[ho]
      simp only[Sr,Option.getD_some,Array.all_eq_true',Sh,Sj]
      intro e he
      cases hb:Region.binds .any e
      · exact .inl rfl
      · exact .inr (h2 e he hb)
theorem sj (Vj:JZ ops sp base) (C':Array Bool) (hs:C'.size=ops.size) (h:Region.ready .any ops C'=[]):∀i,i<ops.size→C'.getD i false=true:=by
  intro i
  induction i using Nat.strongRecOn with
  | _ i ih =>
    intro hi
    cases hl:C'.getD i false
    · exfalso
      have ho:ops[i]?=some ops[i]:=R0 hi
      have:i∈Region.ready .any ops C':=(dK C' hs i).2 ⟨hl,_,ho,fun e he hb=>ih e.on (Vj.top i _ ho e he hb) (by have:=Vj.top i _ ho e he hb;omega)⟩
      rw[h]at this
      cases this
    · rfl
def DX (ops:Array Oper) (m:Nat):Bool:=decide (m≤ops.size)&&(List.range ops.size).all fun k=>decide (k<m)||(List.range k).all fun j=>df ops k j
theorem pU {m:Nat} (h:DX ops m=true):m≤ops.size∧∀k,m≤k→k<ops.size→∀j,j<k→df ops k j=true:=by
  unfold DX at h
  simp only[RA,Sy,R7,SD,Sh]at h
  exact⟨h.1,fun k hk ZQ j hj=>(h.2 k ZQ).resolve_left (by omega) j hj⟩
theorem pB (n:Nat):∀m,m≤n→Az (Array.replicate n false) m=m
  | 0,_=>rfl
  | m+1,h=>by
    have hm:m<n:=by omega
    simp[Az,pB n m (by omega),hm]
end
theorem ge.any:ge (fun _ _ _=>True):=fun _ _ _ _ _ _ _ _ _=>trivial
theorem ge.ex {α:Type} {F:α→(Nat→Prop)→Value→World→Prop} (h:∀x,ge (F x)):ge (fun S v w=>∃x,F x S v w) :=
  fun S S' v w w' ⟨x,hx⟩ h1 h2 h3=>⟨x,h x S S' v w w' hx h1 h2 h3⟩
theorem ge.and {F G:(Nat→Prop)→Value→World→Prop} (h:ge F) (k:ge G):ge (fun S v w=>F S v w∧G S v w) :=
  fun S S' v w w' ⟨x,y⟩ h1 h2 h3=>⟨h S S' v w w' x h1 h2 h3,k S S' v w w' y h1 h2 h3⟩
section
variable {P:Program} {ops:Array Oper} {sp:tp} {base:Act} {w0:World}
def DY (P:Program) (ops:Array Oper) (sp:tp) (base:Act) (w0:World):Nat→List Oper→Prop
  | _,[]=>True
  | i,o::r=>qA P ops sp base w0 i o∧DY P ops sp base w0 (i+1) r
theorem DY.at:∀(l:List Oper) (i:Nat),DY P ops sp base w0 i l→∀(k:Nat) (o:Oper),l[k]?=some o→qA P ops sp base w0 (i+k) o
  | [],_,_,k,o,h=>by simp at h
  | x::l,i,h,0,o,hk=>by simp at hk;subst hk;exact h.1
  | x::l,i,h,k+1,o,hk=>by
    have:=DY.at l (i+1) h.2 k o (by simpa using hk)
    rwa [show i+1+k=i+(k+1)from by omega]at this
theorem qA.grow {i:Nat} {o:Oper} (hk:sp.K i=.grow) (hg:fe sp o)
    (h:∀(ρ:Operand→Value) (S:Nat→Prop) (w:World),yB ρ→Below w0.heap.size w0 w→(∀b,b<w0.heap.size→S b)→j8 sp base ρ S w (sp.ins i) →
      pu P (fun v w'=>Below w.heap.size w w'∧sp.F i (fun b=>S b∨w.heap.size≤b) v w') ((execOp ρ o).run P w)):qA P ops sp base w0 i o:=by
  unfold qA
  rw[hk]
  exact⟨hg,h⟩
theorem qA.skip {i:Nat} {o:Oper} (hk:sp.K i=.skip) (hg:t9 sp o) (h:∀S w,sp.F i S undef w):qA P ops sp base w0 i o:=by
  unfold qA
  rw[hk]
  exact⟨hg,h⟩
theorem qA.alloc {i:Nat} {o:Oper} {T:TypeId} {z:Array Value} (hk:sp.K i=.alloc T z) (hg:fe sp o)
    (h:∀(ρ:Operand→Value) (w:World),(execOp ρ o).run P w=.ok (.value (.pointer (some ⟨w.heap.size,0,none⟩))) (w.alloc (.cells z T))):qA P ops sp base w0 i o:=by
  unfold qA
  rw[hk]
  exact⟨hg,h⟩
theorem qA.fill {i:Nat} {o:Oper} {j:Nat} {T:TypeId} {z:Array Value} {t:Tmp} (hk:sp.K i=.fill j) (V0:sp.K j=.alloc T z) (ht:jt ops j=some t) (hg:fe sp o)
    (h:∀(ρ:Operand→Value) (S:Nat→Prop) (w:World) (b:Nat),yB ρ→Below w0.heap.size w0 w→(∀b,b<w0.heap.size→S b)→j8 sp base ρ S w (sp.ins i) →
      ρ (.tmp t)=.pointer (some ⟨b,0,none⟩)→w.heap[b]?=some (.cells z T)→¬S b →
      ∃w',(execOp ρ o).run P w=.ok .skip w'∧si b w w'∧sp.F i (fun x=>S x∨x=b) (.pointer (some ⟨b,0,none⟩)) w'):qA P ops sp base w0 i o:=by
  unfold qA
  rw[hk]
  refine⟨hg,?_⟩
  intro T' z' t' ρ S w b q1 q2 hc hb hS hI hp hh hn
  rw[V0]at q1
  rw[ht]at q2
  cases q1
  cases q2
  exact h ρ S w b hc hb hS hI hp hh hn
theorem fe.none {o:Oper} (h:o.guard=.none):fe sp o:=fun g Ve hg=>by rw[h]at hg;cases hg
theorem fe.some {o:Oper} {g:Nat} {Ve:Bool} (h:o.guard=.some (g,Ve)) (hF:∀S v w,sp.F g S v w→v=.bool Ve):fe sp o:=fun g' want' hg=>by
  rw[h]at hg
  cases hg
  exact hF
theorem t9.some {o:Oper} {g:Nat} {Ve:Bool} (h:o.guard=.some (g,Ve)) (hF:∀S v w,sp.F g S v w→v=.bool (!Ve)∨v=undef):t9 sp o:=⟨g,Ve,h,hF⟩
end
open Go
def Q2:List (Nat×List (Option FuncId)):=[]
end Go.Proofs.YtckgpflobhpnpaaGreat
