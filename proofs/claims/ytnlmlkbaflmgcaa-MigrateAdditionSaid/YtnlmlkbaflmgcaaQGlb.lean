/- Parts of a proof. -/
import Derived.ChangeOld
import Derived.KernelRfl
import Derived.Laws.AppendOwnNone
import Derived.Laws.Bits64
import Derived.Laws.BitsAllLaws
import Derived.Laws.MakeOwn
import Derived.Laws.OwnMore
import Derived.Laws.StructEq
import Derived.Lib.Hide
import Derived.LoopNIn
import Derived.OpenShut
import Derived.OrdersIn
import Derived.ProofKit
import Derived.RangeFuncCalls
import Derived.RangeFuncRecord
import Derived.ShutString
import Derived.TacticsIn
import Derived.WalkKit
import Derived.WalkLawsBesides
import Derived.WalkSpells
import GoSem.Claim
namespace Go.Proofs.Ytnlmlkbaflmgcaa
open Go.RowKit
set_option linter.unusedVariables false
set_option linter.unusedSimpArgs false
theorem Pf:type_of% @List.getElem?_eq_some_iff:=@List.getElem?_eq_some_iff
theorem Pg:type_of% @Bool.and_eq_true:=@Bool.and_eq_true
theorem Ph:type_of% @List.getElem?_eq_getElem:=@List.getElem?_eq_getElem
theorem Pj:type_of% @if_neg:=@if_neg
theorem Pk:type_of% @Result.andThen_ok:=@Result.andThen_ok
theorem Pl:type_of% @Nat.le_refl:=@Nat.le_refl
theorem Pm:type_of% @Sem.run_bind:=@Sem.run_bind
theorem Pn:type_of% @if_pos:=@if_pos
theorem Po:type_of% @Prod.mk.injEq:=@Prod.mk.injEq
theorem Pp:type_of% @List.length_replicate:=@List.length_replicate
theorem Pq:type_of% @decide_eq_true:=@decide_eq_true
theorem Pu:type_of% @Option.some.injEq:=@Option.some.injEq
theorem Pv:type_of% @decide_eq_false:=@decide_eq_false
theorem Pw:type_of% @List.getElem?_append_left:=@List.getElem?_append_left
theorem Px:type_of% @Array.getElem?_eq_some_iff:=@Array.getElem?_eq_some_iff
theorem Py:type_of% @List.length_map:=@List.length_map
theorem Pz:type_of% @List.getElem?_append_right:=@List.getElem?_append_right
theorem PA:type_of% @List.getElem?_set_ne:=@List.getElem?_set_ne
theorem PB:type_of% @List.getElem?_set_self:=@List.getElem?_set_self
theorem PC:type_of% @Nat.beq_eq:=@Nat.beq_eq
theorem PD:type_of% @List.length_take:=@List.length_take
theorem PE:type_of% @List.getElem?_map:=@List.getElem?_map
theorem PF:type_of% @Sem.run_pure:=@Sem.run_pure
theorem PG:type_of% @List.length_append:=@List.length_append
theorem PH:type_of% @List.all_eq_true:=@List.all_eq_true
theorem PI:type_of% @Nat.mul_le_mul_right:=@Nat.mul_le_mul_right
theorem PJ:type_of% @Array.getElem?_eq_getElem:=@Array.getElem?_eq_getElem
theorem PK:type_of% @List.getElem?_take:=@List.getElem?_take
theorem PL:type_of% @List.eq_nil_of_length_eq_zero:=@List.eq_nil_of_length_eq_zero
theorem PM:type_of% @List.mem_of_getElem?:=@List.mem_of_getElem?
theorem PN:type_of% @List.mem_cons_of_mem:=@List.mem_cons_of_mem
theorem PO:type_of% @List.length_set:=@List.length_set
theorem PP:type_of% @List.length_nil:=@List.length_nil
theorem PQ:type_of% @List.length_drop:=@List.length_drop
theorem PR:type_of% @Bool.not_eq_true':=@Bool.not_eq_true'
theorem PS:type_of% @Bool.or_eq_true:=@Bool.or_eq_true
theorem PT:type_of% @List.mem_cons_self:=@List.mem_cons_self
theorem PU:type_of% @Array.getElem?_toList:=@Array.getElem?_toList
theorem PV:type_of% @run_underlying:=@run_underlying
theorem PW:type_of% @List.eq_of_mem_replicate:=@List.eq_of_mem_replicate
theorem PX:type_of% @Nat.zero_add:=@Nat.zero_add
theorem PY:type_of% @Option.map_some:=@Option.map_some
theorem PZ:type_of% @Nat.le_trans:=@Nat.le_trans
theorem P0:type_of% @List.map_set:=@List.map_set
theorem P1:type_of% @List.mem_range:=@List.mem_range
theorem P2:type_of% @List.getElem?_eq_none:=@List.getElem?_eq_none
theorem P3:type_of% @List.append_assoc:=@List.append_assoc
theorem P4:type_of% @List.getD_eq_getElem?_getD:=@List.getD_eq_getElem?_getD
theorem P5:type_of% @decide_eq_true_eq:=@decide_eq_true_eq
theorem P6:type_of% @Array.getD_eq_getD_getElem?:=@Array.getD_eq_getD_getElem?
theorem P7:type_of% @Int.toNat_natCast:=@Int.toNat_natCast
theorem P8:type_of% @List.length_cons:=@List.length_cons
theorem P9:type_of% @List.map_append:=@List.map_append
theorem Qa:type_of% @Int.eq_ofNat_of_zero_le:=@Int.eq_ofNat_of_zero_le
theorem Qb:type_of% @Nat.zero_le:=@Nat.zero_le
theorem Qc:type_of% @Bool.false_eq_true:=@Bool.false_eq_true
theorem Qd:type_of% @Bool.and_false:=@Bool.and_false
theorem Qe:type_of% @List.map_cons:=@List.map_cons
theorem Qf:type_of% @List.mem_cons:=@List.mem_cons
theorem Qg:type_of% @Array.getElem?_setIfInBounds_ne:=@Array.getElem?_setIfInBounds_ne
theorem Qh:type_of% @Int.tmod_eq_emod_of_nonneg:=@Int.tmod_eq_emod_of_nonneg
theorem Qi:type_of% @Nat.lt_of_lt_of_le:=@Nat.lt_of_lt_of_le
theorem Qj:type_of% @List.cons.injEq:=@List.cons.injEq
theorem Qk:type_of% @List.append_nil:=@List.append_nil
theorem Ql:type_of% @Decidable.byContradiction:=@Decidable.byContradiction
theorem Qm:type_of% @Nat.ble_eq:=@Nat.ble_eq
theorem Qn:type_of% @List.mem_append:=@List.mem_append
theorem Qo:type_of% @Nat.succ_mul:=@Nat.succ_mul
theorem Qp:type_of% @Array.getElem?_map:=@Array.getElem?_map
theorem Qq:type_of% @List.ext_getElem:=@List.ext_getElem
theorem Qr:type_of% @List.take_length:=@List.take_length
theorem Qs:type_of% @List.getElem?_replicate:=@List.getElem?_replicate
theorem Qt:type_of% @of_decide_eq_true:=@of_decide_eq_true
theorem Qu:type_of% @decide_eq_false_iff_not:=@decide_eq_false_iff_not
theorem Qv:type_of% @List.getElem?_drop:=@List.getElem?_drop
theorem Qw:type_of% @Int.emod_nonneg:=@Int.emod_nonneg
theorem Qx:type_of% @heap_alloc_new:=@heap_alloc_new
theorem Qy:type_of% @Nat.not_lt_zero:=@Nat.not_lt_zero
theorem Qz:type_of% @Below.heap_alloc:=@Below.heap_alloc
theorem QA:type_of% @World.grownBy_alloc:=@World.grownBy_alloc
theorem QB:type_of% @Array.length_toList:=@Array.length_toList
theorem QC:type_of% @World.ownsRow_nil:=@World.ownsRow_nil
theorem QE:type_of% @Bool.and_eq_false_iff:=@Bool.and_eq_false_iff
theorem QF:type_of% @List.mem_singleton:=@List.mem_singleton
theorem QG:type_of% @Int.emod_lt_of_pos:=@Int.emod_lt_of_pos
theorem QH:type_of% @Nat.pow_le_pow_right:=@Nat.pow_le_pow_right
theorem QI:type_of% @List.mem_append_left:=@List.mem_append_left
theorem QJ:type_of% @List.map_nil:=@List.map_nil
theorem QK:type_of% @List.getElem_of_mem:=@List.getElem_of_mem
theorem QL:type_of% @List.size_toArray:=@List.size_toArray
theorem QN:type_of% @List.map_congr_left:=@List.map_congr_left
theorem QO:type_of% @Nat.add_zero:=@Nat.add_zero
theorem QP:type_of% @List.mem_append_right:=@List.mem_append_right
theorem QQ:type_of% @World.putObj_heap_other:=@World.putObj_heap_other
theorem QR:type_of% @Bool.eq_false_iff:=@Bool.eq_false_iff
theorem QS:type_of% @List.nil_append:=@List.nil_append
theorem QT:type_of% @Int.tdiv_eq_ediv_of_nonneg:=@Int.tdiv_eq_ediv_of_nonneg
theorem QU:type_of% @List.map_toArray:=@List.map_toArray
theorem QV:type_of% @List.any_eq_true:=@List.any_eq_true
theorem QW:type_of% @Option.bind_some:=@Option.bind_some
theorem QX:type_of% @List.getElem_mem:=@List.getElem_mem
theorem QY:type_of% @if_false:=@if_false
theorem QZ:type_of% @ByteArray.size_append:=@ByteArray.size_append
theorem Q0:type_of% @List.take_left:=@List.take_left
theorem Q1:type_of% @Array.mem_toList_iff:=@Array.mem_toList_iff
theorem Q2:type_of% @Array.ext':=@Array.ext'
theorem Q3:type_of% @List.range_succ:=@List.range_succ
theorem Q4:type_of% @List.getElem?_set:=@List.getElem?_set
theorem Q5:type_of% @List.foldl_append:=@List.foldl_append
theorem Q6:type_of% @Oper.upon_enter:=@Oper.upon_enter
theorem Q7:type_of% @if_true:=@if_true
theorem Q8:type_of% @Nat.mul_le_mul_left:=@Nat.mul_le_mul_left
theorem Q9:type_of% @Nat.add_sub_cancel_left:=@Nat.add_sub_cancel_left
theorem Ra:type_of% @Bool.not_eq_true:=@Bool.not_eq_true
theorem Rb:type_of% @List.take_of_length_le:=@List.take_of_length_le
theorem Rc:type_of% @ByteArray.size_extract:=@ByteArray.size_extract
theorem Rd:type_of% @List.mem_filter:=@List.mem_filter
theorem Re:type_of% @Nat.add_mul:=@Nat.add_mul
theorem Rf:type_of% @List.map_map:=@List.map_map
theorem Rh:type_of% @World.putObj_size:=@World.putObj_size
theorem Ri:type_of% @World.cell?_of_block:=@World.cell?_of_block
theorem Rj:type_of% @List.getElem_map:=@List.getElem_map
theorem Rk:type_of% @Option.getD_some:=@Option.getD_some
theorem Rl:type_of% @List.take_succ_cons:=@List.take_succ_cons
theorem Rm:type_of% @Nat.blt_eq:=@Nat.blt_eq
theorem Rn:type_of% @List.all_cons:=@List.all_cons
theorem Ro:type_of% @Nat.lt_irrefl:=@Nat.lt_irrefl
theorem Rp:type_of% @Below.refl:=@Below.refl
theorem Rq:type_of% @Nat.mul_le_mul:=@Nat.mul_le_mul
theorem Rr:type_of% @Bool.false_and:=@Bool.false_and
theorem Rs:type_of% @and_true:=@and_true
theorem Rt:type_of% @Ne.symm:=@Ne.symm
def jv (F:(Nat→Prop)→Value→World→Prop):Prop :=
  ∀(S S':Nat→Prop) (v:Value) (w w':World),F S v w→(∀b,S b→b<w.heap.size→S' b) →
    (∀b,S b→b<w.heap.size→w'.heap[b]?=w.heap[b]?)→w.heap.size≤w'.heap.size→F S' v w'
def nj (P:Program) (R:Value→World→Prop):Result Next→Prop
  | .ok (.value v) w'=>R v w'
  | .ok .skip w'=>R undef w'
  | .ok (.enter f args) w'=>Calls P f args w' (fun e w''=>∃v,e=.returned v∧R v w'')
  | _=>False
theorem nj.upon {P:Program} {R:Value→World→Prop} {o:Oper} {a:Act} {next:Act→World→Prop} {Q:Exit→Act→World→Prop} {r:Result Next}
    (h:nj P R r) (hn:∀v w',R v w'→next (a.put o.dst v) w'):o.upon P a next Q r:=by
  cases r with
  | ok n w' =>
    cases n<;>simp only[nj]at h
    case value v=>exact hn _ _ h
    case skip=>exact hn _ _ h
    case enter f args =>
      refine h.mono ?_
      rintro e w'' ⟨v,rfl,hr⟩
      exact hn _ _ hr
  | halt x w'=>simp only[nj]at h
theorem nj.ok {P:Program} {R:Value→World→Prop} {v:Value} {w':World} (h:R v w'):nj P R (.ok (.value v) w'):=h
theorem nj.enter {P:Program} {R:Value→World→Prop} {f:FuncId} {args:Array Value} {w':World} (h:Calls P f args w' (fun e w''=>∃v,e=.returned v∧R v w'')):nj P R (.ok (.enter f args) w'):=h
theorem nj.of {P:Program} {R:Value→World→Prop} {r:Result Next} {v:Value} {w':World} (h:r=.ok (.value v) w') (hR:R v w'):nj P R r:=by
  rw[h];exact hR
attribute [irreducible] nj
inductive qU where
  | grow
  | skip
  | alloc (T:TypeId) (zero:Array Value)
  | fill (j:Nat)
def qU.isAlloc:qU→Bool | .alloc _ _=>true | _=>false
def qU.who:qU→Nat→Nat | .fill j,_=>j | _,i=>i
structure qV where
  K:Nat→qU
  F:Nat→(Nat→Prop)→Value→World→Prop
  ins:Nat→List (Tmp×Option Nat)
section
variable (P:Program) (ops:Array Oper) (sp:qV) (base:Act) (w0:World)
def A4 (i j:Nat):Bool:=match ops[i]? with | some o=>o.after.any (fun e=>Region.binds .any e&&e.on==j) | none=>false
def wa:Nat→Nat→Nat→Bool
  | 0,i,j=>A4 ops i j
  | f+1,i,j=>A4 ops i j||(match ops[i]? with | some o=>o.after.any (fun e=>Nat.blt j e.on&&Region.binds .any e&&wa f e.on j) | none=>false)
abbrev cE (i j:Nat):Bool:=wa ops 12 i j
def jb (i:Nat):Option Tmp:=(ops[i]?).bind (·.dst)
def j4 (i:Nat) (j:Option Nat) (t:Tmp):Bool :=
  (List.range ops.size).all fun k=>jb ops k != some t||k==i||some k==j||cE ops k i||(match j with | some j=>cE ops j k | none=>false)
def Li (i:Nat) (p:Tmp×Option Nat):Bool :=
  match p.2 with
  | none=>j4 ops i none p.1
  | some k=>match sp.K k with
    | .fill j=>jb ops j==some p.1&&cE ops i j&&cE ops i k&&j4 ops i (some j) p.1
    | .alloc _ _=>false
    | _=>jb ops k==some p.1&&cE ops i k&&j4 ops i (some k) p.1
def El (i:Nat):Bool :=
  (match ops[i]? with
   | some o=>o.after.all (fun e=>!Region.binds .any e||decide (e.on<i)) &&
      (match o.dst with
       | some t=>decide (t<base.tmps.size)&&(List.range i).all (fun k=>jb ops k != some t||cE ops i k)
       | none=>true) &&
      (match o.guard with
       | some (g,_)=>cE ops i g&&(match jb ops g with | some t=>j4 ops i (some g) t | none=>false)&&(match sp.K g with | .alloc _ _=>false | .fill _=>false | _=>true)
       | none=>true)
   | none=>true) &&
  (sp.ins i).all (Li ops sp i) &&
  (match sp.K i with
   | .fill j=>cE ops i j&&(match jb ops j with | some t=>j4 ops i (some j) t | none=>false)&&(sp.K j).isAlloc&&(jb ops i==none) &&
      (List.range ops.size).all (fun k=>k==i||(match sp.K k with | .fill j'=>j' != j | _=>true))
   | .skip=>true
   | _=>true)
def Ja:Bool:=(List.range ops.size).all (El ops sp base)
def jB (ρ:Operand→Value) (S:Nat→Prop) (w:World):List (Tmp×Option Nat)→Prop
  | []=>True
  | (t,none)::r=>ρ (.tmp t)=base.tmps.getD t undef∧jB ρ S w r
  | (t,some k)::r=>sp.F k S (ρ (.tmp t)) w∧jB ρ S w r
structure pZ (b:Nat) (w w':World):Prop where
  os:w'.os=w.os
  tape:w'.tape=w.tape
  output:w'.output=w.output
  size:w'.heap.size=w.heap.size
  block:∀k,k≠b→w'.heap[k]?=w.heap[k]?
def eD (o:Oper):Prop:=∀g Ss,o.guard=some (g,Ss)→∀S v w,sp.F g S v w→v=.bool Ss
def rM (o:Oper):Prop:=∃g Ss,o.guard=some (g,Ss)∧∀S v w,sp.F g S v w→v=.bool (!Ss)∨v=undef
structure wb (ρ:Operand→Value):Prop where
  const:∀v,ρ (.const v)=v
  func:∀f,ρ (.func f)=.func (.func f) #[] #[]
  global:∀g,ρ (.global g)=.pointer (some ⟨g,0,none⟩)
def o7 (i:Nat) (o:Oper):Prop :=
  match sp.K i with
  | .grow=>eD sp o∧∀ρ S w,wb ρ→Below w0.heap.size w0 w→(∀b,b<w0.heap.size→S b)→jB sp base ρ S w (sp.ins i) →
      nj P (fun v w'=>Below w.heap.size w w'∧sp.F i (fun b=>S b∨w.heap.size≤b) v w') ((execOp ρ o).run P w)
  | .skip=>rM sp o∧∀S w,sp.F i S undef w
  | .alloc T z=>eD sp o∧∀ρ w,(execOp ρ o).run P w=.ok (.value (.pointer (some ⟨w.heap.size,0,none⟩))) (w.alloc (.cells z T))
  | .fill j=>eD sp o∧∀T z t ρ S w b,sp.K j=.alloc T z→jb ops j=some t→wb ρ→Below w0.heap.size w0 w→(∀b,b<w0.heap.size→S b)→jB sp base ρ S w (sp.ins i) →
      ρ (.tmp t)=.pointer (some ⟨b,0,none⟩)→w.heap[b]?=some (.cells z T)→¬S b →
      ∃w',(execOp ρ o).run P w=.ok .skip w'∧pZ b w w'∧sp.F i (fun x=>S x∨x=b) (.pointer (some ⟨b,0,none⟩)) w'
structure lg (C':Array Bool) (env:Nat→Value) (a:Act):Prop where
  lsize:C'.size=ops.size
  closed:∀i o,C'.getD i false=true→ops[i]?=some o→∀e∈o.after,Region.binds .any e=true→C'.getD e.on false=true
  defers:a.defers=base.defers
  tsize:a.tmps.size=base.tmps.size
  slots:∀t,(∀k,C'.getD k false=true→jb ops k≠some t)→a.tmps[t]?=base.tmps[t]?
  vals:∀j t,C'.getD j false=true→jb ops j=some t→(∀k,C'.getD k false=true→jb ops k=some t→k≠j→cE ops j k=true)→a.tmps[t]?=some (env j)
structure wc (C':Array Bool) (env:Nat→Value) (S:Nat→Prop) (w:World):Prop where
  below:Below w0.heap.size w0 w
  sbase:∀b,b<w0.heap.size→S b
  slt:∀b,S b→b<w.heap.size
  facts:∀j,C'.getD j false=true→(sp.K j).isAlloc=false→sp.F j S (env ((sp.K j).who j)) w
  priv:∀j T z,C'.getD j false=true→sp.K j=.alloc T z→(∀k,C'.getD k false=true→sp.K k≠.fill j) →
    ∃b,env j=.pointer (some ⟨b,0,none⟩)∧¬S b∧w.heap[b]?=some (.cells z T)
  ptrs:∀j T z,C'.getD j false=true→sp.K j=.alloc T z→∃b,env j=.pointer (some ⟨b,0,none⟩)∧w0.heap.size≤b∧b<w.heap.size
  apart:∀j j' T z T' z' b,C'.getD j false=true→C'.getD j' false=true→sp.K j=.alloc T z→sp.K j'=.alloc T' z'→env j=.pointer (some ⟨b,0,none⟩)→env j'=.pointer (some ⟨b,0,none⟩)→j=j'
end
section
variable {P:Program} {ops:Array Oper} {sp:qV} {base:Act} {w0:World}
theorem a6 (l:Array Bool) (i k:Nat) (hi:i<l.size):(l.setIfInBounds i true).getD k false=(if k=i then true else l.getD k false):=by
  by_cases h:k=i
  · subst h;simp[hi]
  · rw[Pj h]
    simp only[P6]
    rw[Qg (fun e=>h e.symm)]
theorem o8 {C':Array Bool} {i j:Nat} (hc:∀o,ops[i]?=some o→∀e∈o.after,Region.binds .any e=true→C'.getD e.on false=true)
    (h:A4 ops i j=true):C'.getD j false=true:=by
  unfold A4 at h
  split at h
  · rename_i o ho
    simp only[Array.any_eq_true',Pg,beq_iff_eq]at h
    obtain⟨e,he,hb,rfl⟩:=h
    exact hc o ho e he hb
  · cases h
theorem ga {C':Array Bool} (hcl:∀i o,C'.getD i false=true→ops[i]?=some o→∀e∈o.after,Region.binds .any e=true→C'.getD e.on false=true) :
    ∀(f i j:Nat),(∀o,ops[i]?=some o→∀e∈o.after,Region.binds .any e=true→C'.getD e.on false=true)→wa ops f i j=true→C'.getD j false=true:=by
  intro f
  induction f with
  | zero=>intro i j hc h;exact o8 hc h
  | succ f ih =>
    intro i j hc h
    simp only[wa,PS]at h
    rcases h with h | h
    · exact o8 hc h
    · split at h
      · rename_i o ho
        simp only[Array.any_eq_true',Pg]at h
        obtain⟨e,he,⟨_,hb⟩,h⟩:=h
        exact ih e.on j (fun o' SG=>hcl e.on o' (hc o ho e he hb) SG) h
      · cases h
structure G9 (ops:Array Oper) (sp:qV) (base:Act):Prop where
  top:∀i o,ops[i]?=some o→∀e∈o.after,Region.binds .any e=true→e.on<i
  writes:∀i t,jb ops i=some t→t<base.tmps.size∧∀k,k<i→jb ops k=some t→cE ops i k=true
  guard:∀i o g Ss,ops[i]?=some o→o.guard=some (g,Ss)→cE ops i g=true∧(sp.K g).isAlloc=false∧(sp.K g).who g=g∧∃t,jb ops g=some t∧j4 ops i (some g) t=true
  ins:∀i,i<ops.size→∀p∈sp.ins i,Li ops sp i p=true
  fill:∀i j,i<ops.size→sp.K i=.fill j→cE ops i j=true∧(∃t,jb ops j=some t∧j4 ops i (some j) t=true)∧(sp.K j).isAlloc=true∧jb ops i=none∧∀k,k<ops.size→sp.K k=.fill j→k=i
theorem xG (h:Ja ops sp base=true):G9 ops sp base:=by
  unfold Ja at h
  simp only[PH,P1]at h
  have lt:∀i o,ops[i]?=some o→i<ops.size:=fun i o ho=>(Px.1 ho).1
  refine⟨?_,?_,?_,?_,?_⟩
  · intro i o ho e he hb
    have:=h i (lt i o ho)
    unfold El at this
    simp only[ho,Pg,Array.all_eq_true',PS,PR,P5]at this
    have h2:=this.1.1.1.1 e he
    rcases h2 with h2 | h2
    · rw[hb]at h2;cases h2
    · exact h2
  · intro i t ht
    unfold jb at ht
    cases ho:ops[i]? with
    | none=>rw[ho]at ht;cases ht
    | some o =>
      rw[ho]at ht
      simp only[QW]at ht
      have:=h i (lt i o ho)
      unfold El at this
      simp only[ho,ht,Pg,P5,PH,P1,PS,bne_iff_ne]at this
      refine⟨this.1.1.1.2.1,fun k hk hkt=>?_⟩
      have h2:=this.1.1.1.2.2 k hk
      exact h2.resolve_left (fun Sm=>Sm hkt)
  · intro i o g Ss ho hg
    have:=h i (lt i o ho)
    unfold El at this
    simp only[ho,hg,Pg]at this
    obtain⟨⟨h1,h2⟩,h3⟩:=this.1.1.2
    refine⟨h1,?_,?_,?_⟩
    · cases hk:sp.K g<;>simp[hk,qU.isAlloc]at h3 ⊢
    · cases hk:sp.K g<;>simp[hk,qU.who]at h3 ⊢
    · cases ht:jb ops g with
      | none=>simp[ht]at h2
      | some t=>exact⟨t,rfl,by simpa[ht]using h2⟩
  · intro i hi p hp
    have:=h i hi
    unfold El at this
    simp only[Pg,PH]at this
    exact this.1.2 p hp
  · intro i j hi hk
    have:=h i hi
    unfold El at this
    simp only[hk,Pg,PH,P1,PS,beq_iff_eq]at this
    obtain⟨⟨⟨⟨h1,h2⟩,h3⟩,h4⟩,h5⟩:=this.2
    refine⟨h1,?_,h3,h4,fun k Si Uk=>?_⟩
    · cases ht:jb ops j with
      | none=>simp[ht]at h2
      | some t=>exact⟨t,rfl,by simpa[ht]using h2⟩
    · rcases h5 k Si with h6 | h6
      · exact h6
      · rw[Uk]at h6;simp at h6
theorem uK (a:Act) (d:Option Tmp) (v:Value) (t:Tmp) (h:d≠some t):(a.put d v).tmps[t]?=a.tmps[t]?:=by
  cases d with
  | none=>rfl
  | some d=>exact Qg (fun e=>h (by rw[e]))
theorem Em (a:Act) (v:Value) (t:Tmp) (h:t<a.tmps.size):(a.put (some t) v).tmps[t]?=some v:=by
  simp[Act.put,h]
theorem Eo (a:Act) (d:Option Tmp) (v:Value):(a.put d v).tmps.size=a.tmps.size:=by
  cases d<;>simp[Act.put]
theorem xH (a:Act) (d:Option Tmp) (v:Value):(a.put d v).defers=a.defers:=by
  cases d<;>rfl
theorem lg.step (TI:G9 ops sp base) {C':Array Bool} {env:Nat→Value} {a:Act} (hF:lg ops base C' env a) {i:Nat} {o:Oper} (hi:ops[i]?=some o)
    (Sh:C'.getD i false=false) (hr:∀e∈o.after,Region.binds .any e=true→C'.getD e.on false=true) (v:Value) :
    lg ops base (C'.setIfInBounds i true) (fun k=>if k=i then v else env k) (a.put o.dst v):=by
  have RF:i<C'.size:=by rw[hF.lsize];exact(Px.1 hi).1
  have hd:jb ops i=o.dst:=by simp[jb,hi]
  refine⟨by simpa using hF.lsize,?_,by rw[xH];exact hF.defers,by rw[Eo];exact hF.tsize,?_,?_⟩
  · intro k ok hk V1 e he hb
    rw[a6 _ _ _ RF]at hk ⊢
    split
    · rfl
    · by_cases SI:k=i
      · subst SI
        rw[hi]at V1
        cases V1
        exact hr e he hb
      · rw[Pj SI]at hk
        exact hF.closed k ok hk V1 e he hb
  · intro t ht
    have h1:o.dst≠some t:=by
      have:=ht i (by rw[a6 _ _ _ RF,Pn rfl])
      rwa [hd]at this
    rw[uK _ _ _ _ h1]
    refine hF.slots t (fun k hk=>ht k ?_)
    rw[a6 _ _ _ RF]
    split
    · rfl
    · exact hk
  · intro j t hj hjt hw
    by_cases Sd:j=i
    · subst Sd
      rw[hd]at hjt
      simp only[Q7,hjt]
      refine Em _ _ _ ?_
      rw[hF.tsize]
      exact(TI.writes j t (by rw[hd];exact hjt)).1
    · rw[a6 _ _ _ RF,Pj Sd]at hj
      have h1:o.dst≠some t:=by
        intro h1
        have hb:=hw i (by rw[a6 _ _ _ RF,Pn rfl]) (by rw[hd];exact h1) (fun e=>Sd e.symm)
        have:=ga hF.closed 12 j i (fun oj hoj=>hF.closed j oj hj hoj) hb
        rw[Sh]at this
        cases this
      rw[uK _ _ _ _ h1]
      simp only[Pj Sd]
      refine hF.vals j t hj hjt (fun k hk hkt hkj=>hw k ?_ hkt hkj)
      rw[a6 _ _ _ RF]
      split
      · rfl
      · exact hk
theorem zE (TI:G9 ops sp base) {C':Array Bool} {env:Nat→Value} {a:Act} (hF:lg ops base C' env a) {i k:Nat} (Sh:C'.getD i false=false) (hk:C'.getD k false=true):(sp.K k).who k≠i:=by
  have SI:k≠i:=by rintro rfl;rw[Sh]at hk;cases hk
  cases Uk:sp.K k with
  | fill j =>
    simp only[qU.who]
    rintro rfl
    have RF:k<ops.size:=by
      rw[← hF.lsize]
      refine Ql fun hn=>?_
      simp[Array.getD,hn]at hk
    have hb:=(TI.fill k j RF Uk).1
    have:=ga hF.closed 12 k j (fun o' SG=>hF.closed k o' hk SG) hb
    rw[Sh]at this;cases this
  | grow=>exact SI
  | skip=>exact SI
  | alloc T z=>exact SI
theorem wc.grow (TI:G9 ops sp base) (Sj:∀j,jv (sp.F j)) {C':Array Bool} {env:Nat→Value} {S:Nat→Prop} {a:Act} {w w':World} (hF:lg ops base C' env a) (hM:wc sp w0 C' env S w) {i:Nat}
    (RF:i<C'.size) (Sh:C'.getD i false=false) (hk:sp.K i=.grow∨sp.K i=.skip) {v:Value} (hb:Below w.heap.size w w') (hf:sp.F i (fun b=>S b∨w.heap.size≤b) v w') :
    wc sp w0 (C'.setIfInBounds i true) (fun k=>if k=i then v else env k) (fun b=>S b∨(w.heap.size≤b∧b<w'.heap.size)) w':=by
  have hwi:(sp.K i).who i=i:=by rcases hk with hk | hk<;>rw[hk]<;>rfl
  have VC:∀T z,sp.K i≠.alloc T z:=by rcases hk with hk | hk<;>rw[hk]<;>simp
  have hN:=hM.below.size
  refine⟨hM.below.trans (hb.mono hN),fun b h=>.inl (hM.sbase b h),?_,?_,?_,?_,?_⟩
  · rintro b (h | h)
    · exact Qi (hM.slt b h) hb.size
    · exact h.2
  · intro j hj Sb
    by_cases Sd:j=i
    · subst Sd
      rw[hwi]
      simp only[Q7]
      exact Sj j _ _ _ _ _ hf (fun b h hl=>h.imp id (fun h=>⟨h,hl⟩)) (fun _ _ _=>rfl) (Pl _)
    · rw[a6 _ _ _ RF,Pj Sd]at hj
      rw[Pj (zE TI hF Sh hj)]
      exact Sj j _ _ _ _ _ (hM.facts j hj Sb) (fun b h _=>.inl h) (fun b _ h=>hb.block b h) hb.size
  · intro j T z hj Si UG
    by_cases Sd:j=i
    · subst Sd;exact absurd Si (VC _ _)
    · rw[a6 _ _ _ RF,Pj Sd]at hj
      obtain⟨b,h1,h2,h3⟩:=hM.priv j T z hj Si (fun k hk=>UG k (by rw[a6 _ _ _ RF];split<;>first | rfl | exact hk))
      have hbl:b<w.heap.size:=(Px.1 h3).1
      refine⟨b,by rw[Pj Sd];exact h1,?_,by rw[hb.block b hbl];exact h3⟩
      rintro(h | h)
      · exact h2 h
      · omega
  · intro j T z hj Si
    by_cases Sd:j=i
    · subst Sd;exact absurd Si (VC _ _)
    · rw[a6 _ _ _ RF,Pj Sd]at hj
      obtain⟨b,h1,h2,h3⟩:=hM.ptrs j T z hj Si
      exact⟨b,by rw[Pj Sd];exact h1,h2,Qi h3 hb.size⟩
  · intro j j' T z T' z' b hj TB Um Tl h1 h2
    have Sd:j≠i:=by rintro rfl;exact VC _ _ Um
    have Tq:j'≠i:=by rintro rfl;exact VC _ _ Tl
    rw[a6 _ _ _ RF,Pj Sd]at hj
    rw[a6 _ _ _ RF,Pj Tq]at TB
    rw[Pj Sd]at h1
    rw[Pj Tq]at h2
    exact hM.apart j j' T z T' z' b hj TB Um Tl h1 h2
theorem wc.alloc (TI:G9 ops sp base) (Sj:∀j,jv (sp.F j)) {C':Array Bool} {env:Nat→Value} {S:Nat→Prop} {a:Act} {w:World} (hF:lg ops base C' env a) (hM:wc sp w0 C' env S w) {i:Nat}
    (RF:i<C'.size) (Sh:C'.getD i false=false) {T:TypeId} {z:Array Value} (hk:sp.K i=.alloc T z) :
    wc sp w0 (C'.setIfInBounds i true) (fun k=>if k=i then .pointer (some ⟨w.heap.size,0,none⟩)else env k) S (w.alloc (.cells z T)):=by
  have hN:=hM.below.size
  have RB:(w.alloc (.cells z T)).heap.size=w.heap.size+1:=by simp
  refine⟨hM.below.alloc hN _,hM.sbase,fun b h=>by have:=hM.slt b h;omega,?_,?_,?_,?_⟩
  · intro j hj Sb
    by_cases Sd:j=i
    · subst Sd;rw[hk]at Sb;cases Sb
    · rw[a6 _ _ _ RF,Pj Sd]at hj
      rw[Pj (zE TI hF Sh hj)]
      exact Sj j _ _ _ _ _ (hM.facts j hj Sb) (fun b h _=>h) (fun b _ h=>Qz w _ b h) (by omega)
  · intro j T' z' hj Si UG
    by_cases Sd:j=i
    · subst Sd
      rw[hk]at Si
      cases Si
      exact⟨w.heap.size,by simp,fun h=>by have:=hM.slt _ h;omega,Qx w _⟩
    · rw[a6 _ _ _ RF,Pj Sd]at hj
      obtain⟨b,h1,h2,h3⟩:=hM.priv j T' z' hj Si (fun k hk=>UG k (by rw[a6 _ _ _ RF];split<;>first | rfl | exact hk))
      have hbl:b<w.heap.size:=(Px.1 h3).1
      exact⟨b,by rw[Pj Sd];exact h1,h2,by rw[Qz w _ b hbl];exact h3⟩
  · intro j T' z' hj Si
    by_cases Sd:j=i
    · subst Sd
      exact⟨w.heap.size,by simp,hN,by omega⟩
    · rw[a6 _ _ _ RF,Pj Sd]at hj
      obtain⟨b,h1,h2,h3⟩:=hM.ptrs j T' z' hj Si
      exact⟨b,by rw[Pj Sd];exact h1,h2,by omega⟩
  · intro j j' T1 z1 T' z' b hj TB Um Tl h1 h2
    have old:∀k T2 z2,k≠i→(C'.setIfInBounds i true).getD k false=true→sp.K k=.alloc T2 z2→env k=.pointer (some ⟨b,0,none⟩)→b<w.heap.size:=by
      intro k T2 z2 SI Sw Uk he
      rw[a6 _ _ _ RF,Pj SI]at Sw
      obtain⟨b',h1,h2,h3⟩:=hM.ptrs k T2 z2 Sw Uk
      rw[h1]at he
      simp at he
      omega
    by_cases Sd:j=i
    · by_cases Tq:j'=i
      · rw[Sd,Tq]
      · rw[Pn Sd]at h1
        rw[Pj Tq]at h2
        have:=old j' _ _ Tq TB Tl h2
        simp only[Value.pointer.injEq,Pu,Addr.mk.injEq]at h1
        omega
    · by_cases Tq:j'=i
      · rw[Pj Sd]at h1
        rw[Pn Tq]at h2
        have:=old j _ _ Sd hj Um h1
        simp only[Value.pointer.injEq,Pu,Addr.mk.injEq]at h2
        omega
      · rw[a6 _ _ _ RF,Pj Sd]at hj
        rw[a6 _ _ _ RF,Pj Tq]at TB
        rw[Pj Sd]at h1
        rw[Pj Tq]at h2
        exact hM.apart j j' _ _ _ _ b hj TB Um Tl h1 h2
theorem wc.fill (TI:G9 ops sp base) (Sj:∀j,jv (sp.F j)) {C':Array Bool} {env:Nat→Value} {S:Nat→Prop} {a:Act} {w w':World} (hF:lg ops base C' env a) (hM:wc sp w0 C' env S w) {i j0:Nat}
    (RF:i<C'.size) (hlo:i<ops.size) (Sh:C'.getD i false=false) (hk:sp.K i=.fill j0) {b0:Nat} (hj0:C'.getD j0 false=true) {T0:TypeId} {z0:Array Value} (hk0:sp.K j0=.alloc T0 z0)
    (he:env j0=.pointer (some ⟨b0,0,none⟩)) (hns:¬S b0) (hb:pZ b0 w w')
    (hf:sp.F i (fun x=>S x∨x=b0) (.pointer (some ⟨b0,0,none⟩)) w') (v:Value) :
    wc sp w0 (C'.setIfInBounds i true) (fun k=>if k=i then v else env k) (fun x=>S x∨x=b0) w':=by
  have VF:w0.heap.size≤b0∧b0<w.heap.size:=by
    obtain⟨b,h1,h2,h3⟩:=hM.ptrs j0 T0 z0 hj0 hk0
    rw[he]at h1
    simp at h1
    omega
  have hs:∀b,S b→w'.heap[b]?=w.heap[b]?:=fun b h=>hb.block b (fun e=>hns (e ▸ h))
  refine⟨hM.below.trans ⟨hb.os,hb.tape,hb.output,by rw[hb.size];exact Pl _,fun k hk=>hb.block k (by omega)⟩,fun b h=>.inl (hM.sbase b h),?_,?_,?_,?_,?_⟩
  · rintro b (h | h)
    · rw[hb.size];exact hM.slt b h
    · rw[hb.size,h];exact VF.2
  · intro j hj Sb
    by_cases Sd:j=i
    · subst Sd
      have hj0i:j0≠j:=by rintro rfl;rw[Sh]at hj0;cases hj0
      rw[hk]
      show sp.F j _ (if j0=j then v else env j0) w'
      rw[Pj hj0i,he]
      exact hf
    · rw[a6 _ _ _ RF,Pj Sd]at hj
      rw[Pj (zE TI hF Sh hj)]
      exact Sj j _ _ _ _ _ (hM.facts j hj Sb) (fun b h _=>.inl h) (fun b h _=>hs b h) (by rw[hb.size];exact Pl _)
  · intro j T z hj Si UG
    have Sd:j≠i:=by rintro rfl;rw[hk]at Si;cases Si
    rw[a6 _ _ _ RF,Pj Sd]at hj
    have hjj:j≠j0:=by
      rintro rfl
      exact UG i (by rw[a6 _ _ _ RF,Pn rfl]) hk
    obtain⟨b,h1,h2,h3⟩:=hM.priv j T z hj Si (fun k hk=>UG k (by rw[a6 _ _ _ RF];split<;>first | rfl | exact hk))
    have hbb:b≠b0:=by
      rintro rfl
      exact hjj (hM.apart j j0 _ _ _ _ b hj hj0 Si hk0 h1 he)
    refine⟨b,by rw[Pj Sd];exact h1,?_,by rw[hb.block b hbb];exact h3⟩
    rintro(h | h)
    · exact h2 h
    · exact hbb h
  · intro j T z hj Si
    have Sd:j≠i:=by rintro rfl;rw[hk]at Si;cases Si
    rw[a6 _ _ _ RF,Pj Sd]at hj
    obtain⟨b,h1,h2,h3⟩:=hM.ptrs j T z hj Si
    exact⟨b,by rw[Pj Sd];exact h1,h2,by rw[hb.size];exact h3⟩
  · intro j j' T z T' z' b hj TB Um Tl h1 h2
    have Sd:j≠i:=by rintro rfl;rw[hk]at Um;cases Um
    have Tq:j'≠i:=by rintro rfl;rw[hk]at Tl;cases Tl
    rw[a6 _ _ _ RF,Pj Sd]at hj
    rw[a6 _ _ _ RF,Pj Tq]at TB
    rw[Pj Sd]at h1
    rw[Pj Tq]at h2
    exact hM.apart j j' T z T' z' b hj TB Um Tl h1 h2
def xC (C':Array Bool):Nat→Nat
  | 0=>0
  | n+1=>xC C' n+(if C'.getD n false then 0 else 1)
theorem xI (C':Array Bool):∀n,xC C' n=0→∀i,i<n→C'.getD i false=true
  | 0,_,i,hi=>by omega
  | n+1,h,i,hi=>by
    simp only[xC]at h
    by_cases So:i=n
    · subst So
      cases hl:C'.getD i false
      · rw[hl]at h;simp at h
      · rfl
    · exact xI C' n (by omega) i (by omega)
theorem A5 (C':Array Bool) (i:Nat) (hi:i<C'.size) (Sh:C'.getD i false=false):∀n,xC (C'.setIfInBounds i true) n+(if i<n then 1 else 0)=xC C' n
  | 0=>by simp[xC]
  | n+1=>by
    have ih:=A5 C' i hi Sh n
    simp only[xC]
    rw[a6 _ _ _ hi]
    by_cases So:n=i
    · subst So
      simp only[Q7,Sh]at ih ⊢
      simp at ih ⊢
      exact ih
    · rw[Pj So]
      have e:(if i<n+1 then 1 else 0)=(if i<n then 1 else 0):=by
        by_cases h1:i<n
        · rw[Pn h1,Pn (by omega)]
        · rw[Pj h1,Pj (by omega)]
      rw[e]
      omega
theorem cV (C':Array Bool) (hs:C'.size=ops.size) (i:Nat):i∈Region.ready .any ops C' ↔
    C'.getD i false=false∧∃o,ops[i]?=some o∧∀e∈o.after,Region.binds .any e=true→C'.getD e.on false=true:=by
  unfold Region.ready
  simp only[Rd,P1,Pg,PR]
  constructor
  · rintro⟨hi,h1,h2⟩
    have ho:ops[i]?=some ops[i]:=PJ hi
    refine⟨?_,_,ho,?_⟩
    · have:i<C'.size:=by omega
      simp[this]at h1 ⊢
      exact h1
    · rw[ho]at h2
      simp only[PY,Rk,Array.all_eq_true',PS,PR]at h2
      intro e he hb
      have:=h2 e he
      rw[hb]at this
      simpa using this
  · rintro⟨h1,o,ho,h2⟩
    have hi:i<ops.size:=(Px.1 ho).1
    refine⟨hi,?_,?_⟩
    · have:i<C'.size:=by omega
      simp[this]at h1 ⊢
      exact h1
    · rw[ho]
      simp only[PY,Rk,Array.all_eq_true',PS,PR]
      intro e he
      cases hb:Region.binds .any e
      · exact .inl rfl
      · exact .inr (h2 e he hb)
theorem p5 (TI:G9 ops sp base) (C':Array Bool) (hs:C'.size=ops.size) (h:Region.ready .any ops C'=[]):∀i,i<ops.size→C'.getD i false=true:=by
  intro i
  induction i using Nat.strongRecOn with
  | _ i ih =>
    intro hi
    cases hl:C'.getD i false
    · exfalso
      have ho:ops[i]?=some ops[i]:=PJ hi
      have:i∈Region.ready .any ops C':=(cV C' hs i).2 ⟨hl,_,ho,fun e he hb=>ih e.on (TI.top i _ ho e he hb) (by have:=TI.top i _ ho e he hb;omega)⟩
      rw[h]at this
      cases this
    · rfl
def A6 (ops:Array Oper) (m:Nat):Bool:=decide (m≤ops.size)&&(List.range ops.size).all fun k=>decide (k<m)||(List.range k).all fun j=>cE ops k j
theorem oh {m:Nat} (h:A6 ops m=true):m≤ops.size∧∀k,m≤k→k<ops.size→∀j,j<k→cE ops k j=true:=by
  unfold A6 at h
  simp only[Pg,P5,PH,P1,PS]at h
  exact⟨h.1,fun k hk hkn j hj=>(h.2 k hkn).resolve_left (by omega) j hj⟩
theorem nG (n:Nat):∀m,m≤n→xC (Array.replicate n false) m=m
  | 0,_=>rfl
  | m+1,h=>by
    have hm:m<n:=by omega
    simp[xC,nG n m (by omega),hm]
end
theorem jv.any:jv (fun _ _ _=>True):=fun _ _ _ _ _ _ _ _ _=>trivial
theorem jv.and {F G:(Nat→Prop)→Value→World→Prop} (h:jv F) (k:jv G):jv (fun S v w=>F S v w∧G S v w) :=
  fun S S' v w w' ⟨x,y⟩ h1 h2 h3=>⟨h S S' v w w' x h1 h2 h3,k S S' v w w' y h1 h2 h3⟩
section
variable {P:Program} {ops:Array Oper} {sp:qV} {base:Act} {w0:World}
def A7 (P:Program) (ops:Array Oper) (sp:qV) (base:Act) (w0:World):Nat→List Oper→Prop
  | _,[]=>True
  | i,o::r=>o7 P ops sp base w0 i o∧A7 P ops sp base w0 (i+1) r
theorem A7.at:∀(l:List Oper) (i:Nat),A7 P ops sp base w0 i l→∀(k:Nat) (o:Oper),l[k]?=some o→o7 P ops sp base w0 (i+k) o
  | [],_,_,k,o,h=>by simp at h
  | x::l,i,h,0,o,hk=>by simp at hk;subst hk;exact h.1
  | x::l,i,h,k+1,o,hk=>by
    have:=A7.at l (i+1) h.2 k o (by simpa using hk)
    rwa [show i+1+k=i+(k+1)from by omega]at this
theorem o7.grow {i:Nat} {o:Oper} (hk:sp.K i=.grow) (hg:eD sp o)
    (h:∀(ρ:Operand→Value) (S:Nat→Prop) (w:World),wb ρ→Below w0.heap.size w0 w→(∀b,b<w0.heap.size→S b)→jB sp base ρ S w (sp.ins i) →
      nj P (fun v w'=>Below w.heap.size w w'∧sp.F i (fun b=>S b∨w.heap.size≤b) v w') ((execOp ρ o).run P w)):o7 P ops sp base w0 i o:=by
  unfold o7
  rw[hk]
  exact⟨hg,h⟩
theorem o7.skip {i:Nat} {o:Oper} (hk:sp.K i=.skip) (hg:rM sp o) (h:∀S w,sp.F i S undef w):o7 P ops sp base w0 i o:=by
  unfold o7
  rw[hk]
  exact⟨hg,h⟩
theorem o7.alloc {i:Nat} {o:Oper} {T:TypeId} {z:Array Value} (hk:sp.K i=.alloc T z) (hg:eD sp o)
    (h:∀(ρ:Operand→Value) (w:World),(execOp ρ o).run P w=.ok (.value (.pointer (some ⟨w.heap.size,0,none⟩))) (w.alloc (.cells z T))):o7 P ops sp base w0 i o:=by
  unfold o7
  rw[hk]
  exact⟨hg,h⟩
theorem o7.fill {i:Nat} {o:Oper} {j:Nat} {T:TypeId} {z:Array Value} {t:Tmp} (hk:sp.K i=.fill j) (Tl:sp.K j=.alloc T z) (ht:jb ops j=some t) (hg:eD sp o)
    (h:∀(ρ:Operand→Value) (S:Nat→Prop) (w:World) (b:Nat),wb ρ→Below w0.heap.size w0 w→(∀b,b<w0.heap.size→S b)→jB sp base ρ S w (sp.ins i) →
      ρ (.tmp t)=.pointer (some ⟨b,0,none⟩)→w.heap[b]?=some (.cells z T)→¬S b →
      ∃w',(execOp ρ o).run P w=.ok .skip w'∧pZ b w w'∧sp.F i (fun x=>S x∨x=b) (.pointer (some ⟨b,0,none⟩)) w'):o7 P ops sp base w0 i o:=by
  unfold o7
  rw[hk]
  refine⟨hg,?_⟩
  intro T' z' t' ρ S w b q1 q2 hc hb hS hI hp hh hn
  rw[Tl]at q1
  rw[ht]at q2
  cases q1
  cases q2
  exact h ρ S w b hc hb hS hI hp hh hn
theorem eD.none {o:Oper} (h:o.guard=.none):eD sp o:=fun g Ss hg=>by rw[h]at hg;cases hg
theorem eD.some {o:Oper} {g:Nat} {Ss:Bool} (h:o.guard=.some (g,Ss)) (hF:∀S v w,sp.F g S v w→v=.bool Ss):eD sp o:=fun g' want' hg=>by
  rw[h]at hg
  cases hg
  exact hF
theorem rM.some {o:Oper} {g:Nat} {Ss:Bool} (h:o.guard=.some (g,Ss)) (hF:∀S v w,sp.F g S v w→v=.bool (!Ss)∨v=undef):rM sp o:=⟨g,Ss,h,hF⟩
end
open Go
def Ow:List (Nat×List (Option FuncId)):=[]
end Go.Proofs.Ytnlmlkbaflmgcaa
