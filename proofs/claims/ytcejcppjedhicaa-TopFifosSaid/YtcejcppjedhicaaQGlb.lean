/- Parts of a proof. -/
import Derived.ChangeOld
import Derived.Deep.RegionLaw
import Derived.KernelRfl
import Derived.Laws.AppendOwnNone
import Derived.Laws.Bits64
import Derived.Laws.BitsAllLaws
import Derived.Laws.CopyOwn
import Derived.Laws.MakeOwn
import Derived.Laws.OwnMore
import Derived.Laws.StructEq
import Derived.Lib.Hide
import Derived.LoopN
import Derived.LoopNIn
import Derived.OpenShut
import Derived.OrdersIn
import Derived.ProofKit
import Derived.RangeFuncCalls
import Derived.RangeFuncRecord
import Derived.ShutString
import Derived.TacticsIn
import Derived.WalkKit
import Derived.WalkLawsBesides
import Derived.WalkSpells
import GoSem.Claim
namespace Go.Proofs.Ytcejcppjedhicaa
open Go.RowKit
set_option linter.unusedVariables false
set_option linter.unusedSimpArgs false
theorem NK:type_of% @Bool.and_eq_true:=@Bool.and_eq_true
theorem NL:type_of% @List.getElem?_eq_some_iff:=@List.getElem?_eq_some_iff
theorem NM:type_of% @List.getElem?_eq_getElem:=@List.getElem?_eq_getElem
theorem NN:type_of% @Nat.le_refl:=@Nat.le_refl
theorem NO:type_of% @Result.andThen_ok:=@Result.andThen_ok
theorem NP:type_of% @Sem.run_bind:=@Sem.run_bind
theorem NQ:type_of% @if_neg:=@if_neg
theorem NR:type_of% @List.length_replicate:=@List.length_replicate
theorem NS:type_of% @Prod.mk.injEq:=@Prod.mk.injEq
theorem NT:type_of% @if_pos:=@if_pos
theorem NU:type_of% @List.getElem?_append_left:=@List.getElem?_append_left
theorem NV:type_of% @Array.getElem?_eq_some_iff:=@Array.getElem?_eq_some_iff
theorem NW:type_of% @Option.some.injEq:=@Option.some.injEq
theorem NX:type_of% @List.getElem?_append_right:=@List.getElem?_append_right
theorem NY:type_of% @List.length_append:=@List.length_append
theorem NZ:type_of% @List.getElem?_set_ne:=@List.getElem?_set_ne
theorem N0:type_of% @List.getElem?_set_self:=@List.getElem?_set_self
theorem N1:type_of% @List.length_map:=@List.length_map
theorem N2:type_of% @Nat.beq_eq:=@Nat.beq_eq
theorem N3:type_of% @List.length_take:=@List.length_take
theorem N4:type_of% @List.getElem?_map:=@List.getElem?_map
theorem N5:type_of% @decide_eq_false:=@decide_eq_false
theorem N6:type_of% @Sem.run_pure:=@Sem.run_pure
theorem N7:type_of% @Array.getElem?_eq_getElem:=@Array.getElem?_eq_getElem
theorem N8:type_of% @Nat.mul_le_mul_right:=@Nat.mul_le_mul_right
theorem N9:type_of% @List.length_drop:=@List.length_drop
theorem Oa:type_of% @List.all_eq_true:=@List.all_eq_true
theorem Ob:type_of% @List.getElem?_take:=@List.getElem?_take
theorem Oc:type_of% @Bool.not_eq_true':=@Bool.not_eq_true'
theorem Od:type_of% @List.getD_eq_getElem?_getD:=@List.getD_eq_getElem?_getD
theorem Oe:type_of% @List.mem_cons_of_mem:=@List.mem_cons_of_mem
theorem Og:type_of% @decide_eq_true:=@decide_eq_true
theorem Oh:type_of% @List.mem_of_getElem?:=@List.mem_of_getElem?
theorem Oi:type_of% @List.mem_cons_self:=@List.mem_cons_self
theorem Oj:type_of% @List.eq_nil_of_length_eq_zero:=@List.eq_nil_of_length_eq_zero
theorem Ok:type_of% @List.length_set:=@List.length_set
theorem Ol:type_of% @List.eq_of_mem_replicate:=@List.eq_of_mem_replicate
theorem Om:type_of% @List.append_nil:=@List.append_nil
theorem Oo:type_of% @Array.getElem?_toList:=@Array.getElem?_toList
theorem Oq:type_of% @Bool.or_eq_true:=@Bool.or_eq_true
theorem Ot:type_of% @List.length_nil:=@List.length_nil
theorem Ou:type_of% @run_underlying:=@run_underlying
theorem Ow:type_of% @List.length_cons:=@List.length_cons
theorem Ox:type_of% @List.map_append:=@List.map_append
theorem Oy:type_of% @Nat.zero_le:=@Nat.zero_le
theorem Oz:type_of% @Option.map_some:=@Option.map_some
theorem OA:type_of% @Nat.zero_add:=@Nat.zero_add
theorem OB:type_of% @List.mem_cons:=@List.mem_cons
theorem OC:type_of% @Bool.false_eq_true:=@Bool.false_eq_true
theorem OD:type_of% @List.map_set:=@List.map_set
theorem OE:type_of% @List.append_assoc:=@List.append_assoc
theorem OG:type_of% @List.map_nil:=@List.map_nil
theorem OH:type_of% @Array.getD_eq_getD_getElem?:=@Array.getD_eq_getD_getElem?
theorem OI:type_of% @Int.tmod_eq_emod_of_nonneg:=@Int.tmod_eq_emod_of_nonneg
theorem OJ:type_of% @List.mem_range:=@List.mem_range
theorem OK:type_of% @List.mem_append_right:=@List.mem_append_right
theorem OL:type_of% @List.getElem?_eq_none:=@List.getElem?_eq_none
theorem OM:type_of% @heap_alloc_new:=@heap_alloc_new
theorem OO:type_of% @decide_eq_true_eq:=@decide_eq_true_eq
theorem OP:type_of% @Array.getElem?_setIfInBounds_ne:=@Array.getElem?_setIfInBounds_ne
theorem OQ:type_of% @List.map_cons:=@List.map_cons
theorem OS:type_of% @List.mem_append_left:=@List.mem_append_left
theorem OT:type_of% @Int.eq_ofNat_of_zero_le:=@Int.eq_ofNat_of_zero_le
theorem OU:type_of% @List.nil_append:=@List.nil_append
theorem OV:type_of% @Nat.lt_of_lt_of_le:=@Nat.lt_of_lt_of_le
theorem OW:type_of% @List.getElem?_replicate:=@List.getElem?_replicate
theorem OX:type_of% @Decidable.byContradiction:=@Decidable.byContradiction
theorem OY:type_of% @Nat.ble_eq:=@Nat.ble_eq
theorem OZ:type_of% @List.mem_append:=@List.mem_append
theorem O0:type_of% @Nat.succ_mul:=@Nat.succ_mul
theorem O1:type_of% @Array.getElem?_map:=@Array.getElem?_map
theorem O2:type_of% @World.grownBy_alloc:=@World.grownBy_alloc
theorem O3:type_of% @Array.getElem?_push:=@Array.getElem?_push
theorem O4:type_of% @of_decide_eq_true:=@of_decide_eq_true
theorem O5:type_of% @List.eq_nil_iff_forall_not_mem:=@List.eq_nil_iff_forall_not_mem
theorem O6:type_of% @List.getElem?_drop:=@List.getElem?_drop
theorem O7:type_of% @List.mem_singleton:=@List.mem_singleton
theorem O8:type_of% @List.count_cons:=@List.count_cons
theorem O9:type_of% @beq_self_eq_true:=@beq_self_eq_true
theorem Pa:type_of% @World.ownsRow_nil:=@World.ownsRow_nil
theorem Pb:type_of% @Nat.le_trans:=@Nat.le_trans
theorem Pc:type_of% @List.getElem?_toArray:=@List.getElem?_toArray
theorem Pd:type_of% @Int.emod_eq_of_lt:=@Int.emod_eq_of_lt
theorem Pe:type_of% @if_true:=@if_true
theorem Pf:type_of% @if_false:=@if_false
theorem Pg:type_of% @Int.emod_lt_of_pos:=@Int.emod_lt_of_pos
theorem Ph:type_of% @Nat.add_zero:=@Nat.add_zero
theorem Pj:type_of% @List.ext_getElem:=@List.ext_getElem
theorem Pk:type_of% @List.take_length:=@List.take_length
theorem Pl:type_of% @List.size_toArray:=@List.size_toArray
theorem Pm:type_of% @Int.emod_nonneg:=@Int.emod_nonneg
theorem Pn:type_of% @List.cons.injEq:=@List.cons.injEq
theorem Po:type_of% @Nat.not_lt_zero:=@Nat.not_lt_zero
theorem Pp:type_of% @List.map_toArray:=@List.map_toArray
theorem Pq:type_of% @List.getElem_mem:=@List.getElem_mem
theorem Pu:type_of% @List.cons_append:=@List.cons_append
theorem Pv:type_of% @Nat.pow_le_pow_right:=@Nat.pow_le_pow_right
theorem Pw:type_of% @Bool.true_and:=@Bool.true_and
theorem Px:type_of% @World.putObj_heap_other:=@World.putObj_heap_other
theorem Py:type_of% @Array.length_toList:=@Array.length_toList
theorem Pz:type_of% @List.map_congr_left:=@List.map_congr_left
theorem PA:type_of% @Nat.blt_eq:=@Nat.blt_eq
theorem PB:type_of% @Option.bind_some:=@Option.bind_some
theorem PC:type_of% @List.filter_append:=@List.filter_append
theorem PD:type_of% @Bool.and_true:=@Bool.and_true
theorem PE:type_of% @Nat.beq_refl:=@Nat.beq_refl
theorem PF:type_of% @List.take_left:=@List.take_left
theorem PG:type_of% @Array.mem_toList_iff:=@Array.mem_toList_iff
theorem PH:type_of% @World.cell?_of_block:=@World.cell?_of_block
theorem PI:type_of% @Int.toNat_natCast:=@Int.toNat_natCast
theorem PJ:type_of% @Array.ext':=@Array.ext'
theorem PK:type_of% @Oper.upon_enter:=@Oper.upon_enter
theorem PL:type_of% @Int.toNat_of_nonneg:=@Int.toNat_of_nonneg
theorem PM:type_of% @Nat.mul_le_mul_left:=@Nat.mul_le_mul_left
theorem PN:type_of% @Ne.symm:=@Ne.symm
theorem PO:type_of% @Nat.add_sub_cancel_left:=@Nat.add_sub_cancel_left
theorem PP:type_of% @List.getElem?_cons_zero:=@List.getElem?_cons_zero
theorem PQ:type_of% @List.getElem_of_mem:=@List.getElem_of_mem
theorem PR:type_of% @List.filter_cons_of_neg:=@List.filter_cons_of_neg
theorem PS:type_of% @Nat.mul_le_mul:=@Nat.mul_le_mul
theorem PT:type_of% @Bool.and_false:=@Bool.and_false
theorem PU:type_of% @List.getElem_replicate:=@List.getElem_replicate
theorem PV:type_of% @List.mem_filter:=@List.mem_filter
theorem PW:type_of% @Nat.add_mul:=@Nat.add_mul
theorem PX:type_of% @List.all_cons:=@List.all_cons
theorem PY:type_of% @Bool.eq_false_iff:=@Bool.eq_false_iff
theorem PZ:type_of% @World.putObj_size:=@World.putObj_size
theorem P0:type_of% @List.getElem?_set:=@List.getElem?_set
theorem P1:type_of% @Oper.uponIn_value:=@Oper.uponIn_value
theorem P2:type_of% @Bool.not_eq_true:=@Bool.not_eq_true
theorem P3:type_of% @Option.getD_some:=@Option.getD_some
theorem P4:type_of% @List.mem_map:=@List.mem_map
theorem P5:type_of% @beq_iff_eq:=@beq_iff_eq
theorem P6:type_of% @Nat.min_eq_left:=@Nat.min_eq_left
def fx (F:(Nat→Prop)→Value→World→Prop):Prop :=
  ∀(S S':Nat→Prop) (v:Value) (w w':World),F S v w→(∀b,S b→b<w.heap.size→S' b) →
    (∀b,S b→b<w.heap.size→w'.heap[b]?=w.heap[b]?)→w.heap.size≤w'.heap.size→F S' v w'
def nk (P:Program) (R:Value→World→Prop):Result Next→Prop
  | .ok (.value v) w'=>R v w'
  | .ok .skip w'=>R undef w'
  | .ok (.enter f args) w'=>Calls P f args w' (fun e w''=>∃v,e=.returned v∧R v w'')
  | _=>False
theorem nk.upon {P:Program} {R:Value→World→Prop} {o:Oper} {a:Act} {next:Act→World→Prop} {Q:Exit→Act→World→Prop} {r:Result Next}
    (h:nk P R r) (hn:∀v w',R v w'→next (a.put o.dst v) w'):o.upon P a next Q r:=by
  cases r with
  | ok n w' =>
    cases n<;>simp only[nk]at h
    case value v=>exact hn _ _ h
    case skip=>exact hn _ _ h
    case enter f args =>
      refine h.mono ?_
      rintro e w'' ⟨v,rfl,hr⟩
      exact hn _ _ hr
  | halt x w'=>simp only[nk]at h
theorem nk.ok {P:Program} {R:Value→World→Prop} {v:Value} {w':World} (h:R v w'):nk P R (.ok (.value v) w'):=h
theorem nk.enter {P:Program} {R:Value→World→Prop} {f:FuncId} {args:Array Value} {w':World} (h:Calls P f args w' (fun e w''=>∃v,e=.returned v∧R v w'')):nk P R (.ok (.enter f args) w'):=h
theorem nk.of {P:Program} {R:Value→World→Prop} {r:Result Next} {v:Value} {w':World} (h:r=.ok (.value v) w') (hR:R v w'):nk P R r:=by
  rw[h];exact hR
attribute [irreducible] nk
inductive rF where
  | grow
  | skip
  | alloc (T:TypeId) (zero:Array Value)
  | fill (j:Nat)
def rF.isAlloc:rF→Bool | .alloc _ _=>true | _=>false
def rF.who:rF→Nat→Nat | .fill j,_=>j | _,i=>i
structure rG where
  K:Nat→rF
  F:Nat→(Nat→Prop)→Value→World→Prop
  ins:Nat→List (Tmp×Option Nat)
section
variable (P:Program) (ops:Array Oper) (sp:rG) (base:Act) (w0:World)
def Bz (i j:Nat):Bool:=match ops[i]? with | some o=>o.after.any (fun e=>Region.binds .any e&&e.on==j) | none=>false
def wO:Nat→Nat→Nat→Bool
  | 0,i,j=>Bz ops i j
  | f+1,i,j=>Bz ops i j||(match ops[i]? with | some o=>o.after.any (fun e=>Nat.blt j e.on&&Region.binds .any e&&wO f e.on j) | none=>false)
abbrev cF (i j:Nat):Bool:=wO ops 12 i j
def iE (i:Nat):Option Tmp:=(ops[i]?).bind (·.dst)
def jC (i:Nat) (j:Option Nat) (t:Tmp):Bool :=
  (List.range ops.size).all fun k=>iE ops k != some t||k==i||some k==j||cF ops k i||(match j with | some j=>cF ops j k | none=>false)
def KE (i:Nat) (p:Tmp×Option Nat):Bool :=
  match p.2 with
  | none=>jC ops i none p.1
  | some k=>match sp.K k with
    | .fill j=>iE ops j==some p.1&&cF ops i j&&cF ops i k&&jC ops i (some j) p.1
    | .alloc _ _=>false
    | _=>iE ops k==some p.1&&cF ops i k&&jC ops i (some k) p.1
def Er (i:Nat):Bool :=
  (match ops[i]? with
   | some o=>o.after.all (fun e=>!Region.binds .any e||decide (e.on<i)) &&
      (match o.dst with
       | some t=>decide (t<base.tmps.size)&&(List.range i).all (fun k=>iE ops k != some t||cF ops i k)
       | none=>true) &&
      (match o.guard with
       | some (g,_)=>cF ops i g&&(match iE ops g with | some t=>jC ops i (some g) t | none=>false)&&(match sp.K g with | .alloc _ _=>false | .fill _=>false | _=>true)
       | none=>true)
   | none=>true) &&
  (sp.ins i).all (KE ops sp i) &&
  (match sp.K i with
   | .fill j=>cF ops i j&&(match iE ops j with | some t=>jC ops i (some j) t | none=>false)&&(sp.K j).isAlloc&&(iE ops i==none) &&
      (List.range ops.size).all (fun k=>k==i||(match sp.K k with | .fill j'=>j' != j | _=>true))
   | .skip=>true
   | _=>true)
def Iu:Bool:=(List.range ops.size).all (Er ops sp base)
def je (ρ:Operand→Value) (S:Nat→Prop) (w:World):List (Tmp×Option Nat)→Prop
  | []=>True
  | (t,none)::r=>ρ (.tmp t)=base.tmps.getD t undef∧je ρ S w r
  | (t,some k)::r=>sp.F k S (ρ (.tmp t)) w∧je ρ S w r
structure qr (b:Nat) (w w':World):Prop where
  os:w'.os=w.os
  tape:w'.tape=w.tape
  output:w'.output=w.output
  size:w'.heap.size=w.heap.size
  block:∀k,k≠b→w'.heap[k]?=w.heap[k]?
def eu (o:Oper):Prop:=∀g Rl,o.guard=some (g,Rl)→∀S v w,sp.F g S v w→v=.bool Rl
def sw (o:Oper):Prop:=∃g Rl,o.guard=some (g,Rl)∧∀S v w,sp.F g S v w→v=.bool (!Rl)∨v=undef
structure wP (ρ:Operand→Value):Prop where
  const:∀v,ρ (.const v)=v
  func:∀f,ρ (.func f)=.func (.func f) #[] #[]
  global:∀g,ρ (.global g)=.pointer (some ⟨g,0,none⟩)
def oW (i:Nat) (o:Oper):Prop :=
  match sp.K i with
  | .grow=>eu sp o∧∀ρ S w,wP ρ→Below w0.heap.size w0 w→(∀b,b<w0.heap.size→S b)→je sp base ρ S w (sp.ins i) →
      nk P (fun v w'=>Below w.heap.size w w'∧sp.F i (fun b=>S b∨w.heap.size≤b) v w') ((execOp ρ o).run P w)
  | .skip=>sw sp o∧∀S w,sp.F i S undef w
  | .alloc T z=>eu sp o∧∀ρ w,(execOp ρ o).run P w=.ok (.value (.pointer (some ⟨w.heap.size,0,none⟩))) (w.alloc (.cells z T))
  | .fill j=>eu sp o∧∀T z t ρ S w b,sp.K j=.alloc T z→iE ops j=some t→wP ρ→Below w0.heap.size w0 w→(∀b,b<w0.heap.size→S b)→je sp base ρ S w (sp.ins i) →
      ρ (.tmp t)=.pointer (some ⟨b,0,none⟩)→w.heap[b]?=some (.cells z T)→¬S b →
      ∃w',(execOp ρ o).run P w=.ok .skip w'∧qr b w w'∧sp.F i (fun x=>S x∨x=b) (.pointer (some ⟨b,0,none⟩)) w'
structure kN (C':Array Bool) (env:Nat→Value) (a:Act):Prop where
  lsize:C'.size=ops.size
  closed:∀i o,C'.getD i false=true→ops[i]?=some o→∀e∈o.after,Region.binds .any e=true→C'.getD e.on false=true
  defers:a.defers=base.defers
  tsize:a.tmps.size=base.tmps.size
  slots:∀t,(∀k,C'.getD k false=true→iE ops k≠some t)→a.tmps[t]?=base.tmps[t]?
  vals:∀j t,C'.getD j false=true→iE ops j=some t→(∀k,C'.getD k false=true→iE ops k=some t→k≠j→cF ops j k=true)→a.tmps[t]?=some (env j)
structure wR (C':Array Bool) (env:Nat→Value) (S:Nat→Prop) (w:World):Prop where
  below:Below w0.heap.size w0 w
  sbase:∀b,b<w0.heap.size→S b
  slt:∀b,S b→b<w.heap.size
  facts:∀j,C'.getD j false=true→(sp.K j).isAlloc=false→sp.F j S (env ((sp.K j).who j)) w
  priv:∀j T z,C'.getD j false=true→sp.K j=.alloc T z→(∀k,C'.getD k false=true→sp.K k≠.fill j) →
    ∃b,env j=.pointer (some ⟨b,0,none⟩)∧¬S b∧w.heap[b]?=some (.cells z T)
  ptrs:∀j T z,C'.getD j false=true→sp.K j=.alloc T z→∃b,env j=.pointer (some ⟨b,0,none⟩)∧w0.heap.size≤b∧b<w.heap.size
  apart:∀j j' T z T' z' b,C'.getD j false=true→C'.getD j' false=true→sp.K j=.alloc T z→sp.K j'=.alloc T' z'→env j=.pointer (some ⟨b,0,none⟩)→env j'=.pointer (some ⟨b,0,none⟩)→j=j'
end
section
variable {P:Program} {ops:Array Oper} {sp:rG} {base:Act} {w0:World}
theorem aV (l:Array Bool) (i k:Nat) (hi:i<l.size):(l.setIfInBounds i true).getD k false=(if k=i then true else l.getD k false):=by
  by_cases h:k=i
  · subst h;simp[hi]
  · rw[NQ h]
    simp only[OH]
    rw[OP (fun e=>h e.symm)]
theorem oX {C':Array Bool} {i j:Nat} (hc:∀o,ops[i]?=some o→∀e∈o.after,Region.binds .any e=true→C'.getD e.on false=true)
    (h:Bz ops i j=true):C'.getD j false=true:=by
  unfold Bz at h
  split at h
  · rename_i o ho
    simp only[Array.any_eq_true',NK,P5]at h
    obtain⟨e,he,hb,rfl⟩:=h
    exact hc o ho e he hb
  · cases h
theorem f4 {C':Array Bool} (hcl:∀i o,C'.getD i false=true→ops[i]?=some o→∀e∈o.after,Region.binds .any e=true→C'.getD e.on false=true) :
    ∀(f i j:Nat),(∀o,ops[i]?=some o→∀e∈o.after,Region.binds .any e=true→C'.getD e.on false=true)→wO ops f i j=true→C'.getD j false=true:=by
  intro f
  induction f with
  | zero=>intro i j hc h;exact oX hc h
  | succ f ih =>
    intro i j hc h
    simp only[wO,Oq]at h
    rcases h with h | h
    · exact oX hc h
    · split at h
      · rename_i o ho
        simp only[Array.any_eq_true',NK]at h
        obtain⟨e,he,⟨_,hb⟩,h⟩:=h
        exact ih e.on j (fun o' Rq=>hcl e.on o' (hc o ho e he hb) Rq) h
      · cases h
structure GU (ops:Array Oper) (sp:rG) (base:Act):Prop where
  top:∀i o,ops[i]?=some o→∀e∈o.after,Region.binds .any e=true→e.on<i
  writes:∀i t,iE ops i=some t→t<base.tmps.size∧∀k,k<i→iE ops k=some t→cF ops i k=true
  guard:∀i o g Rl,ops[i]?=some o→o.guard=some (g,Rl)→cF ops i g=true∧(sp.K g).isAlloc=false∧(sp.K g).who g=g∧∃t,iE ops g=some t∧jC ops i (some g) t=true
  ins:∀i,i<ops.size→∀p∈sp.ins i,KE ops sp i p=true
  fill:∀i j,i<ops.size→sp.K i=.fill j→cF ops i j=true∧(∃t,iE ops j=some t∧jC ops i (some j) t=true)∧(sp.K j).isAlloc=true∧iE ops i=none∧∀k,k<ops.size→sp.K k=.fill j→k=i
theorem yf (h:Iu ops sp base=true):GU ops sp base:=by
  unfold Iu at h
  simp only[Oa,OJ]at h
  have lt:∀i o,ops[i]?=some o→i<ops.size:=fun i o ho=>(NV.1 ho).1
  refine⟨?_,?_,?_,?_,?_⟩
  · intro i o ho e he hb
    have:=h i (lt i o ho)
    unfold Er at this
    simp only[ho,NK,Array.all_eq_true',Oq,Oc,OO]at this
    have h2:=this.1.1.1.1 e he
    rcases h2 with h2 | h2
    · rw[hb]at h2;cases h2
    · exact h2
  · intro i t ht
    unfold iE at ht
    cases ho:ops[i]? with
    | none=>rw[ho]at ht;cases ht
    | some o =>
      rw[ho]at ht
      simp only[PB]at ht
      have:=h i (lt i o ho)
      unfold Er at this
      simp only[ho,ht,NK,OO,Oa,OJ,Oq,bne_iff_ne]at this
      refine⟨this.1.1.1.2.1,fun k hk hkt=>?_⟩
      have h2:=this.1.1.1.2.2 k hk
      exact h2.resolve_left (fun QI=>QI hkt)
  · intro i o g Rl ho hg
    have:=h i (lt i o ho)
    unfold Er at this
    simp only[ho,hg,NK]at this
    obtain⟨⟨h1,h2⟩,h3⟩:=this.1.1.2
    refine⟨h1,?_,?_,?_⟩
    · cases hk:sp.K g<;>simp[hk,rF.isAlloc]at h3 ⊢
    · cases hk:sp.K g<;>simp[hk,rF.who]at h3 ⊢
    · cases ht:iE ops g with
      | none=>simp[ht]at h2
      | some t=>exact⟨t,rfl,by simpa[ht]using h2⟩
  · intro i hi p hp
    have:=h i hi
    unfold Er at this
    simp only[NK,Oa]at this
    exact this.1.2 p hp
  · intro i j hi hk
    have:=h i hi
    unfold Er at this
    simp only[hk,NK,Oa,OJ,Oq,P5]at this
    obtain⟨⟨⟨⟨h1,h2⟩,h3⟩,h4⟩,h5⟩:=this.2
    refine⟨h1,?_,h3,h4,fun k QX Tg=>?_⟩
    · cases ht:iE ops j with
      | none=>simp[ht]at h2
      | some t=>exact⟨t,rfl,by simpa[ht]using h2⟩
    · rcases h5 k QX with h6 | h6
      · exact h6
      · rw[Tg]at h6;simp at h6
theorem vk (a:Act) (d:Option Tmp) (v:Value) (t:Tmp) (h:d≠some t):(a.put d v).tmps[t]?=a.tmps[t]?:=by
  cases d with
  | none=>rfl
  | some d=>exact OP (fun e=>h (by rw[e]))
theorem Es (a:Act) (v:Value) (t:Tmp) (h:t<a.tmps.size):(a.put (some t) v).tmps[t]?=some v:=by
  simp[Act.put,h]
theorem Et (a:Act) (d:Option Tmp) (v:Value):(a.put d v).tmps.size=a.tmps.size:=by
  cases d<;>simp[Act.put]
theorem yg (a:Act) (d:Option Tmp) (v:Value):(a.put d v).defers=a.defers:=by
  cases d<;>rfl
theorem kN.step (Rd:GU ops sp base) {C':Array Bool} {env:Nat→Value} {a:Act} (hF:kN ops base C' env a) {i:Nat} {o:Oper} (hi:ops[i]?=some o)
    (Re:C'.getD i false=false) (hr:∀e∈o.after,Region.binds .any e=true→C'.getD e.on false=true) (v:Value) :
    kN ops base (C'.setIfInBounds i true) (fun k=>if k=i then v else env k) (a.put o.dst v):=by
  have Ql:i<C'.size:=by rw[hF.lsize];exact(NV.1 hi).1
  have hd:iE ops i=o.dst:=by simp[iE,hi]
  refine⟨by simpa using hF.lsize,?_,by rw[yg];exact hF.defers,by rw[Et];exact hF.tsize,?_,?_⟩
  · intro k ok hk U' e he hb
    rw[aV _ _ _ Ql]at hk ⊢
    split
    · rfl
    · by_cases RC:k=i
      · subst RC
        rw[hi]at U'
        cases U'
        exact hr e he hb
      · rw[NQ RC]at hk
        exact hF.closed k ok hk U' e he hb
  · intro t ht
    have h1:o.dst≠some t:=by
      have:=ht i (by rw[aV _ _ _ Ql,NT rfl])
      rwa [hd]at this
    rw[vk _ _ _ _ h1]
    refine hF.slots t (fun k hk=>ht k ?_)
    rw[aV _ _ _ Ql]
    split
    · rfl
    · exact hk
  · intro j t hj hjt hw
    by_cases Q0:j=i
    · subst Q0
      rw[hd]at hjt
      simp only[Pe,hjt]
      refine Es _ _ _ ?_
      rw[hF.tsize]
      exact(Rd.writes j t (by rw[hd];exact hjt)).1
    · rw[aV _ _ _ Ql,NQ Q0]at hj
      have h1:o.dst≠some t:=by
        intro h1
        have hb:=hw i (by rw[aV _ _ _ Ql,NT rfl]) (by rw[hd];exact h1) (fun e=>Q0 e.symm)
        have:=f4 hF.closed 12 j i (fun oj Wh=>hF.closed j oj hj Wh) hb
        rw[Re]at this
        cases this
      rw[vk _ _ _ _ h1]
      simp only[NQ Q0]
      refine hF.vals j t hj hjt (fun k hk hkt Wg=>hw k ?_ hkt Wg)
      rw[aV _ _ _ Ql]
      split
      · rfl
      · exact hk
theorem z5 (Rd:GU ops sp base) {C':Array Bool} {env:Nat→Value} {a:Act} (hF:kN ops base C' env a) {i k:Nat} (Re:C'.getD i false=false) (hk:C'.getD k false=true):(sp.K k).who k≠i:=by
  have RC:k≠i:=by rintro rfl;rw[Re]at hk;cases hk
  cases Tg:sp.K k with
  | fill j =>
    simp only[rF.who]
    rintro rfl
    have Ql:k<ops.size:=by
      rw[← hF.lsize]
      refine OX fun hn=>?_
      simp[Array.getD,hn]at hk
    have hb:=(Rd.fill k j Ql Tg).1
    have:=f4 hF.closed 12 k j (fun o' Rq=>hF.closed k o' hk Rq) hb
    rw[Re]at this;cases this
  | grow=>exact RC
  | skip=>exact RC
  | alloc T z=>exact RC
theorem wR.grow (Rd:GU ops sp base) (QU:∀j,fx (sp.F j)) {C':Array Bool} {env:Nat→Value} {S:Nat→Prop} {a:Act} {w w':World} (hF:kN ops base C' env a) (hM:wR sp w0 C' env S w) {i:Nat}
    (Ql:i<C'.size) (Re:C'.getD i false=false) (hk:sp.K i=.grow∨sp.K i=.skip) {v:Value} (hb:Below w.heap.size w w') (hf:sp.F i (fun b=>S b∨w.heap.size≤b) v w') :
    wR sp w0 (C'.setIfInBounds i true) (fun k=>if k=i then v else env k) (fun b=>S b∨(w.heap.size≤b∧b<w'.heap.size)) w':=by
  have hwi:(sp.K i).who i=i:=by rcases hk with hk | hk<;>rw[hk]<;>rfl
  have Up:∀T z,sp.K i≠.alloc T z:=by rcases hk with hk | hk<;>rw[hk]<;>simp
  have hN:=hM.below.size
  refine⟨hM.below.trans (hb.mono hN),fun b h=>.inl (hM.sbase b h),?_,?_,?_,?_,?_⟩
  · rintro b (h | h)
    · exact OV (hM.slt b h) hb.size
    · exact h.2
  · intro j hj QG
    by_cases Q0:j=i
    · subst Q0
      rw[hwi]
      simp only[Pe]
      exact QU j _ _ _ _ _ hf (fun b h hl=>h.imp id (fun h=>⟨h,hl⟩)) (fun _ _ _=>rfl) (NN _)
    · rw[aV _ _ _ Ql,NQ Q0]at hj
      rw[NQ (z5 Rd hF Re hj)]
      exact QU j _ _ _ _ _ (hM.facts j hj QG) (fun b h _=>.inl h) (fun b _ h=>hb.block b h) hb.size
  · intro j T z hj QX TF
    by_cases Q0:j=i
    · subst Q0;exact absurd QX (Up _ _)
    · rw[aV _ _ _ Ql,NQ Q0]at hj
      obtain⟨b,h1,h2,h3⟩:=hM.priv j T z hj QX (fun k hk=>TF k (by rw[aV _ _ _ Ql];split<;>first | rfl | exact hk))
      have Tr:b<w.heap.size:=(NV.1 h3).1
      refine⟨b,by rw[NQ Q0];exact h1,?_,by rw[hb.block b Tr];exact h3⟩
      rintro(h | h)
      · exact h2 h
      · omega
  · intro j T z hj QX
    by_cases Q0:j=i
    · subst Q0;exact absurd QX (Up _ _)
    · rw[aV _ _ _ Ql,NQ Q0]at hj
      obtain⟨b,h1,h2,h3⟩:=hM.ptrs j T z hj QX
      exact⟨b,by rw[NQ Q0];exact h1,h2,OV h3 hb.size⟩
  · intro j j' T z T' z' b hj Ur TE Sp h1 h2
    have Q0:j≠i:=by rintro rfl;exact Up _ _ TE
    have Sj:j'≠i:=by rintro rfl;exact Up _ _ Sp
    rw[aV _ _ _ Ql,NQ Q0]at hj
    rw[aV _ _ _ Ql,NQ Sj]at Ur
    rw[NQ Q0]at h1
    rw[NQ Sj]at h2
    exact hM.apart j j' T z T' z' b hj Ur TE Sp h1 h2
theorem wR.alloc (Rd:GU ops sp base) (QU:∀j,fx (sp.F j)) {C':Array Bool} {env:Nat→Value} {S:Nat→Prop} {a:Act} {w:World} (hF:kN ops base C' env a) (hM:wR sp w0 C' env S w) {i:Nat}
    (Ql:i<C'.size) (Re:C'.getD i false=false) {T:TypeId} {z:Array Value} (hk:sp.K i=.alloc T z) :
    wR sp w0 (C'.setIfInBounds i true) (fun k=>if k=i then .pointer (some ⟨w.heap.size,0,none⟩)else env k) S (w.alloc (.cells z T)):=by
  have hN:=hM.below.size
  have Qk:(w.alloc (.cells z T)).heap.size=w.heap.size+1:=by simp
  refine⟨hM.below.alloc hN _,hM.sbase,fun b h=>by have:=hM.slt b h;omega,?_,?_,?_,?_⟩
  · intro j hj QG
    by_cases Q0:j=i
    · subst Q0;rw[hk]at QG;cases QG
    · rw[aV _ _ _ Ql,NQ Q0]at hj
      rw[NQ (z5 Rd hF Re hj)]
      exact QU j _ _ _ _ _ (hM.facts j hj QG) (fun b h _=>h) (fun b _ h=>Below.heap_alloc w _ b h) (by omega)
  · intro j T' z' hj QX TF
    by_cases Q0:j=i
    · subst Q0
      rw[hk]at QX
      cases QX
      exact⟨w.heap.size,by simp,fun h=>by have:=hM.slt _ h;omega,OM w _⟩
    · rw[aV _ _ _ Ql,NQ Q0]at hj
      obtain⟨b,h1,h2,h3⟩:=hM.priv j T' z' hj QX (fun k hk=>TF k (by rw[aV _ _ _ Ql];split<;>first | rfl | exact hk))
      have Tr:b<w.heap.size:=(NV.1 h3).1
      exact⟨b,by rw[NQ Q0];exact h1,h2,by rw[Below.heap_alloc w _ b Tr];exact h3⟩
  · intro j T' z' hj QX
    by_cases Q0:j=i
    · subst Q0
      exact⟨w.heap.size,by simp,hN,by omega⟩
    · rw[aV _ _ _ Ql,NQ Q0]at hj
      obtain⟨b,h1,h2,h3⟩:=hM.ptrs j T' z' hj QX
      exact⟨b,by rw[NQ Q0];exact h1,h2,by omega⟩
  · intro j j' T1 z1 T' z' b hj Ur TE Sp h1 h2
    have old:∀k T2 z2,k≠i→(C'.setIfInBounds i true).getD k false=true→sp.K k=.alloc T2 z2→env k=.pointer (some ⟨b,0,none⟩)→b<w.heap.size:=by
      intro k T2 z2 RC RA Tg he
      rw[aV _ _ _ Ql,NQ RC]at RA
      obtain⟨b',h1,h2,h3⟩:=hM.ptrs k T2 z2 RA Tg
      rw[h1]at he
      simp at he
      omega
    by_cases Q0:j=i
    · by_cases Sj:j'=i
      · rw[Q0,Sj]
      · rw[NT Q0]at h1
        rw[NQ Sj]at h2
        have:=old j' _ _ Sj Ur Sp h2
        simp only[Value.pointer.injEq,NW,Addr.mk.injEq]at h1
        omega
    · by_cases Sj:j'=i
      · rw[NQ Q0]at h1
        rw[NT Sj]at h2
        have:=old j _ _ Q0 hj TE h1
        simp only[Value.pointer.injEq,NW,Addr.mk.injEq]at h2
        omega
      · rw[aV _ _ _ Ql,NQ Q0]at hj
        rw[aV _ _ _ Ql,NQ Sj]at Ur
        rw[NQ Q0]at h1
        rw[NQ Sj]at h2
        exact hM.apart j j' _ _ _ _ b hj Ur TE Sp h1 h2
theorem wR.fill (Rd:GU ops sp base) (QU:∀j,fx (sp.F j)) {C':Array Bool} {env:Nat→Value} {S:Nat→Prop} {a:Act} {w w':World} (hF:kN ops base C' env a) (hM:wR sp w0 C' env S w) {i j0:Nat}
    (Ql:i<C'.size) (hlo:i<ops.size) (Re:C'.getD i false=false) (hk:sp.K i=.fill j0) {b0:Nat} (VI:C'.getD j0 false=true) {T0:TypeId} {z0:Array Value} (hk0:sp.K j0=.alloc T0 z0)
    (he:env j0=.pointer (some ⟨b0,0,none⟩)) (hns:¬S b0) (hb:qr b0 w w')
    (hf:sp.F i (fun x=>S x∨x=b0) (.pointer (some ⟨b0,0,none⟩)) w') (v:Value) :
    wR sp w0 (C'.setIfInBounds i true) (fun k=>if k=i then v else env k) (fun x=>S x∨x=b0) w':=by
  have Sz:w0.heap.size≤b0∧b0<w.heap.size:=by
    obtain⟨b,h1,h2,h3⟩:=hM.ptrs j0 T0 z0 VI hk0
    rw[he]at h1
    simp at h1
    omega
  have hs:∀b,S b→w'.heap[b]?=w.heap[b]?:=fun b h=>hb.block b (fun e=>hns (e ▸ h))
  refine⟨hM.below.trans ⟨hb.os,hb.tape,hb.output,by rw[hb.size];exact NN _,fun k hk=>hb.block k (by omega)⟩,fun b h=>.inl (hM.sbase b h),?_,?_,?_,?_,?_⟩
  · rintro b (h | h)
    · rw[hb.size];exact hM.slt b h
    · rw[hb.size,h];exact Sz.2
  · intro j hj QG
    by_cases Q0:j=i
    · subst Q0
      have hj0i:j0≠j:=by rintro rfl;rw[Re]at VI;cases VI
      rw[hk]
      show sp.F j _ (if j0=j then v else env j0) w'
      rw[NQ hj0i,he]
      exact hf
    · rw[aV _ _ _ Ql,NQ Q0]at hj
      rw[NQ (z5 Rd hF Re hj)]
      exact QU j _ _ _ _ _ (hM.facts j hj QG) (fun b h _=>.inl h) (fun b h _=>hs b h) (by rw[hb.size];exact NN _)
  · intro j T z hj QX TF
    have Q0:j≠i:=by rintro rfl;rw[hk]at QX;cases QX
    rw[aV _ _ _ Ql,NQ Q0]at hj
    have hjj:j≠j0:=by
      rintro rfl
      exact TF i (by rw[aV _ _ _ Ql,NT rfl]) hk
    obtain⟨b,h1,h2,h3⟩:=hM.priv j T z hj QX (fun k hk=>TF k (by rw[aV _ _ _ Ql];split<;>first | rfl | exact hk))
    have hbb:b≠b0:=by
      rintro rfl
      exact hjj (hM.apart j j0 _ _ _ _ b hj VI QX hk0 h1 he)
    refine⟨b,by rw[NQ Q0];exact h1,?_,by rw[hb.block b hbb];exact h3⟩
    rintro(h | h)
    · exact h2 h
    · exact hbb h
  · intro j T z hj QX
    have Q0:j≠i:=by rintro rfl;rw[hk]at QX;cases QX
    rw[aV _ _ _ Ql,NQ Q0]at hj
    obtain⟨b,h1,h2,h3⟩:=hM.ptrs j T z hj QX
    exact⟨b,by rw[NQ Q0];exact h1,h2,by rw[hb.size];exact h3⟩
  · intro j j' T z T' z' b hj Ur TE Sp h1 h2
    have Q0:j≠i:=by rintro rfl;rw[hk]at TE;cases TE
    have Sj:j'≠i:=by rintro rfl;rw[hk]at Sp;cases Sp
    rw[aV _ _ _ Ql,NQ Q0]at hj
    rw[aV _ _ _ Ql,NQ Sj]at Ur
    rw[NQ Q0]at h1
    rw[NQ Sj]at h2
    exact hM.apart j j' T z T' z' b hj Ur TE Sp h1 h2
def yc (C':Array Bool):Nat→Nat
  | 0=>0
  | n+1=>yc C' n+(if C'.getD n false then 0 else 1)
theorem yh (C':Array Bool):∀n,yc C' n=0→∀i,i<n→C'.getD i false=true
  | 0,_,i,hi=>by omega
  | n+1,h,i,hi=>by
    simp only[yc]at h
    by_cases hin:i=n
    · subst hin
      cases hl:C'.getD i false
      · rw[hl]at h;simp at h
      · rfl
    · exact yh C' n (by omega) i (by omega)
theorem BA (C':Array Bool) (i:Nat) (hi:i<C'.size) (Re:C'.getD i false=false):∀n,yc (C'.setIfInBounds i true) n+(if i<n then 1 else 0)=yc C' n
  | 0=>by simp[yc]
  | n+1=>by
    have ih:=BA C' i hi Re n
    simp only[yc]
    rw[aV _ _ _ hi]
    by_cases hin:n=i
    · subst hin
      simp only[Pe,Re]at ih ⊢
      simp at ih ⊢
      exact ih
    · rw[NQ hin]
      have e:(if i<n+1 then 1 else 0)=(if i<n then 1 else 0):=by
        by_cases h1:i<n
        · rw[NT h1,NT (by omega)]
        · rw[NQ h1,NQ (by omega)]
      rw[e]
      omega
theorem bQ (C':Array Bool) (hs:C'.size=ops.size) (i:Nat):i∈Region.ready .any ops C' ↔
    C'.getD i false=false∧∃o,ops[i]?=some o∧∀e∈o.after,Region.binds .any e=true→C'.getD e.on false=true:=by
  unfold Region.ready
  simp only[PV,OJ,NK,Oc]
  constructor
  · rintro⟨hi,h1,h2⟩
    have ho:ops[i]?=some ops[i]:=N7 hi
    refine⟨?_,_,ho,?_⟩
    · have:i<C'.size:=by omega
      simp[this]at h1 ⊢
      exact h1
    · rw[ho]at h2
      simp only[Oz,P3,Array.all_eq_true',Oq,Oc]at h2
      intro e he hb
      have:=h2 e he
      rw[hb]at this
      simpa using this
  · rintro⟨h1,o,ho,h2⟩
    have hi:i<ops.size:=(NV.1 ho).1
    refine⟨hi,?_,?_⟩
    · have:i<C'.size:=by omega
      simp[this]at h1 ⊢
      exact h1
    · rw[ho]
      simp only[Oz,P3,Array.all_eq_true',Oq,Oc]
      intro e he
      cases hb:Region.binds .any e
      · exact .inl rfl
      · exact .inr (h2 e he hb)
theorem qs (Rd:GU ops sp base) (C':Array Bool) (hs:C'.size=ops.size) (h:Region.ready .any ops C'=[]):∀i,i<ops.size→C'.getD i false=true:=by
  intro i
  induction i using Nat.strongRecOn with
  | _ i ih =>
    intro hi
    cases hl:C'.getD i false
    · exfalso
      have ho:ops[i]?=some ops[i]:=N7 hi
      have:i∈Region.ready .any ops C':=(bQ C' hs i).2 ⟨hl,_,ho,fun e he hb=>ih e.on (Rd.top i _ ho e he hb) (by have:=Rd.top i _ ho e he hb;omega)⟩
      rw[h]at this
      cases this
    · rfl
def BB (ops:Array Oper) (m:Nat):Bool:=decide (m≤ops.size)&&(List.range ops.size).all fun k=>decide (k<m)||(List.range k).all fun j=>cF ops k j
theorem od {m:Nat} (h:BB ops m=true):m≤ops.size∧∀k,m≤k→k<ops.size→∀j,j<k→cF ops k j=true:=by
  unfold BB at h
  simp only[NK,OO,Oa,OJ,Oq]at h
  exact⟨h.1,fun k hk VR j hj=>(h.2 k VR).resolve_left (by omega) j hj⟩
theorem ny (n:Nat):∀m,m≤n→yc (Array.replicate n false) m=m
  | 0,_=>rfl
  | m+1,h=>by
    have hm:m<n:=by omega
    simp[yc,ny n m (by omega),hm]
end
theorem fx.any:fx (fun _ _ _=>True):=fun _ _ _ _ _ _ _ _ _=>trivial
theorem fx.ex {α:Type} {F:α→(Nat→Prop)→Value→World→Prop} (h:∀x,fx (F x)):fx (fun S v w=>∃x,F x S v w) :=
  fun S S' v w w' ⟨x,hx⟩ h1 h2 h3=>⟨x,h x S S' v w w' hx h1 h2 h3⟩
theorem fx.and {F G:(Nat→Prop)→Value→World→Prop} (h:fx F) (k:fx G):fx (fun S v w=>F S v w∧G S v w) :=
  fun S S' v w w' ⟨x,y⟩ h1 h2 h3=>⟨h S S' v w w' x h1 h2 h3,k S S' v w w' y h1 h2 h3⟩
section
variable {P:Program} {ops:Array Oper} {sp:rG} {base:Act} {w0:World}
def BC (P:Program) (ops:Array Oper) (sp:rG) (base:Act) (w0:World):Nat→List Oper→Prop
  | _,[]=>True
  | i,o::r=>oW P ops sp base w0 i o∧BC P ops sp base w0 (i+1) r
theorem BC.at:∀(l:List Oper) (i:Nat),BC P ops sp base w0 i l→∀(k:Nat) (o:Oper),l[k]?=some o→oW P ops sp base w0 (i+k) o
  | [],_,_,k,o,h=>by simp at h
  | x::l,i,h,0,o,hk=>by simp at hk;subst hk;exact h.1
  | x::l,i,h,k+1,o,hk=>by
    have:=BC.at l (i+1) h.2 k o (by simpa using hk)
    rwa [show i+1+k=i+(k+1)from by omega]at this
theorem oW.grow {i:Nat} {o:Oper} (hk:sp.K i=.grow) (hg:eu sp o)
    (h:∀(ρ:Operand→Value) (S:Nat→Prop) (w:World),wP ρ→Below w0.heap.size w0 w→(∀b,b<w0.heap.size→S b)→je sp base ρ S w (sp.ins i) →
      nk P (fun v w'=>Below w.heap.size w w'∧sp.F i (fun b=>S b∨w.heap.size≤b) v w') ((execOp ρ o).run P w)):oW P ops sp base w0 i o:=by
  unfold oW
  rw[hk]
  exact⟨hg,h⟩
theorem oW.skip {i:Nat} {o:Oper} (hk:sp.K i=.skip) (hg:sw sp o) (h:∀S w,sp.F i S undef w):oW P ops sp base w0 i o:=by
  unfold oW
  rw[hk]
  exact⟨hg,h⟩
theorem oW.alloc {i:Nat} {o:Oper} {T:TypeId} {z:Array Value} (hk:sp.K i=.alloc T z) (hg:eu sp o)
    (h:∀(ρ:Operand→Value) (w:World),(execOp ρ o).run P w=.ok (.value (.pointer (some ⟨w.heap.size,0,none⟩))) (w.alloc (.cells z T))):oW P ops sp base w0 i o:=by
  unfold oW
  rw[hk]
  exact⟨hg,h⟩
theorem oW.fill {i:Nat} {o:Oper} {j:Nat} {T:TypeId} {z:Array Value} {t:Tmp} (hk:sp.K i=.fill j) (Sp:sp.K j=.alloc T z) (ht:iE ops j=some t) (hg:eu sp o)
    (h:∀(ρ:Operand→Value) (S:Nat→Prop) (w:World) (b:Nat),wP ρ→Below w0.heap.size w0 w→(∀b,b<w0.heap.size→S b)→je sp base ρ S w (sp.ins i) →
      ρ (.tmp t)=.pointer (some ⟨b,0,none⟩)→w.heap[b]?=some (.cells z T)→¬S b →
      ∃w',(execOp ρ o).run P w=.ok .skip w'∧qr b w w'∧sp.F i (fun x=>S x∨x=b) (.pointer (some ⟨b,0,none⟩)) w'):oW P ops sp base w0 i o:=by
  unfold oW
  rw[hk]
  refine⟨hg,?_⟩
  intro T' z' t' ρ S w b q1 q2 hc hb hS hI hp hh hn
  rw[Sp]at q1
  rw[ht]at q2
  cases q1
  cases q2
  exact h ρ S w b hc hb hS hI hp hh hn
theorem eu.none {o:Oper} (h:o.guard=.none):eu sp o:=fun g Rl hg=>by rw[h]at hg;cases hg
theorem eu.some {o:Oper} {g:Nat} {Rl:Bool} (h:o.guard=.some (g,Rl)) (hF:∀S v w,sp.F g S v w→v=.bool Rl):eu sp o:=fun g' want' hg=>by
  rw[h]at hg
  cases hg
  exact hF
theorem sw.some {o:Oper} {g:Nat} {Rl:Bool} (h:o.guard=.some (g,Rl)) (hF:∀S v w,sp.F g S v w→v=.bool (!Rl)∨v=undef):sw sp o:=⟨g,Rl,h,hF⟩
end
open Go
def MV:List (Nat×List (Option FuncId)):=[]
end Go.Proofs.Ytcejcppjedhicaa
