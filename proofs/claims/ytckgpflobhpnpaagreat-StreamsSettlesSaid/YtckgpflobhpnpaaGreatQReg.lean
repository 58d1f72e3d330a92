/-
  A region that draws its order, by facts on its operations' values: one obligation an operation, whatever order the tape picks. Generic: over any program.
-/
import Derived.WalkKit
namespace Go.Proofs.YtckgpflobhpnpaaGreat
open Go.RowKit
set_option linter.unusedVariables false
set_option linter.unusedSimpArgs false
def gi (F:(Nat→Prop)→Value→World→Prop):Prop :=
  ∀(S S':Nat→Prop) (v:Value) (w w':World), F S v w→(∀b, S b→b<w.heap.size→S' b) →
    (∀b, S b→b<w.heap.size→w'.heap[b]?=w.heap[b]?)→w.heap.size≤w'.heap.size→F S' v w'
def pV (P:Program) (R:Value→World→Prop):Result Next→Prop
  | .ok (.value v) w'=>R v w'
  | .ok .skip w'=>R undef w'
  | .ok (.enter f args) w'=>Calls P f args w' (fun e w''=>∃v, e=.returned v∧R v w'')
  | _=>False
theorem pV.upon {P:Program} {R:Value→World→Prop} {o:Oper} {a:Act} {next:Act→World→Prop} {Q:Exit→Act→World→Prop} {r:Result Next}
    (h:pV P R r) (hn:∀v w', R v w'→next (a.put o.dst v) w'):o.upon P a next Q r:=by
  cases r with
  | ok n w' =>
    cases n<;>simp only[pV]at h
    case value v=>exact hn _ _ h
    case skip=>exact hn _ _ h
    case enter f args =>
      refine h.mono ?_
      rintro e w'' ⟨v, rfl, hr⟩
      exact hn _ _ hr
  | halt x w'=>simp only[pV]at h
theorem pV.ok {P:Program} {R:Value→World→Prop} {v:Value} {w':World} (h:R v w'):pV P R (.ok (.value v) w'):=h
theorem pV.enter {P:Program} {R:Value→World→Prop} {f:FuncId} {args:Array Value} {w':World} (h:Calls P f args w' (fun e w''=>∃v, e=.returned v∧R v w'')):pV P R (.ok (.enter f args) w'):=h
theorem pV.of {P:Program} {R:Value→World→Prop} {r:Result Next} {v:Value} {w':World} (h:r=.ok (.value v) w') (hR:R v w'):pV P R r:=by
  rw[h];exact hR
attribute [irreducible] pV
inductive tT where
  | grow
  | skip
  | alloc (T:TypeId) (zero:Array Value)
  | fill (j:Nat)
def tT.isAlloc:tT→Bool | .alloc _ _=>true | _=>false
def tT.who:tT→Nat→Nat | .fill j, _=>j | _, i=>i
structure tU where
  K:Nat→tT
  F:Nat→(Nat→Prop)→Value→World→Prop
  ins:Nat→List (Tmp×Option Nat)
section
variable (P:Program) (ops:Array Oper) (sp:tU) (base:Act) (w0:World)
def DT (i j:Nat):Bool:=match ops[i]? with | some o=>o.after.any (fun e=>Region.binds .any e&&e.on==j) | none=>false
def yK:Nat→Nat→Nat→Bool
  | 0, i, j=>DT ops i j
  | f+1, i, j=>DT ops i j||(match ops[i]? with | some o=>o.after.any (fun e=>Nat.blt j e.on&&Region.binds .any e&&yK f e.on j) | none=>false)
abbrev c4 (i j:Nat):Bool:=yK ops 12 i j
def jF (i:Nat):Option Tmp:=(ops[i]?).bind (·.dst)
def lj (i:Nat) (j:Option Nat) (t:Tmp):Bool :=
  (List.range ops.size).all fun k=>jF ops k != some t||k==i||some k==j||c4 ops k i||(match j with | some j=>c4 ops j k | none=>false)
def N1 (i:Nat) (p:Tmp×Option Nat):Bool :=
  match p.2 with
  | none=>lj ops i none p.1
  | some k=>match sp.K k with
    | .fill j=>jF ops j==some p.1&&c4 ops i j&&c4 ops i k&&lj ops i (some j) p.1
    | .alloc _ _=>false
    | _=>jF ops k==some p.1&&c4 ops i k&&lj ops i (some k) p.1
def GU (i:Nat):Bool :=
  (match ops[i]? with
   | some o=>o.after.all (fun e=>!Region.binds .any e||decide (e.on<i)) &&
      (match o.dst with
       | some t=>decide (t<base.tmps.size)&&(List.range i).all (fun k=>jF ops k != some t||c4 ops i k)
       | none=>true) &&
      (match o.guard with
       | some (g, _)=>c4 ops i g&&(match jF ops g with | some t=>lj ops i (some g) t | none=>false)&&(match sp.K g with | .alloc _ _=>false | .fill _=>false | _=>true)
       | none=>true)
   | none=>true) &&
  (sp.ins i).all (N1 ops sp i) &&
  (match sp.K i with
   | .fill j=>c4 ops i j&&(match jF ops j with | some t=>lj ops i (some j) t | none=>false)&&(sp.K j).isAlloc&&(jF ops i==none) &&
      (List.range ops.size).all (fun k=>k==i||(match sp.K k with | .fill j'=>j' != j | _=>true))
   | .skip=>true
   | _=>true)
def Lz:Bool:=(List.range ops.size).all (GU ops sp base)
def kw (ρ:Operand→Value) (S:Nat→Prop) (w:World):List (Tmp×Option Nat)→Prop
  | []=>True
  | (t, none)::r=>ρ (.tmp t)=base.tmps.getD t undef∧kw ρ S w r
  | (t, some k)::r=>sp.F k S (ρ (.tmp t)) w∧kw ρ S w r
structure sP (b:Nat) (w w':World):Prop where
  os:w'.os=w.os
  tape:w'.tape=w.tape
  output:w'.output=w.output
  size:w'.heap.size=w.heap.size
  block:∀k, k≠b→w'.heap[k]?=w.heap[k]?
def eN (o:Oper):Prop:=∀g want, o.guard=some (g, want)→∀S v w, sp.F g S v w→v=.bool want
def uN (o:Oper):Prop:=∃g want, o.guard=some (g, want)∧∀S v w, sp.F g S v w→v=.bool (!want)∨v=undef
structure yL (ρ:Operand→Value):Prop where
  const:∀v, ρ (.const v)=v
  func:∀f, ρ (.func f)=.func (.func f) #[] #[]
  global:∀g, ρ (.global g)=.pointer (some ⟨g, 0, none⟩)
def rb (i:Nat) (o:Oper):Prop :=
  match sp.K i with
  | .grow=>eN sp o∧∀ρ S w, yL ρ→Below w0.heap.size w0 w→(∀b, b<w0.heap.size→S b)→kw sp base ρ S w (sp.ins i) →
      pV P (fun v w'=>Below w.heap.size w w'∧sp.F i (fun b=>S b∨w.heap.size≤b) v w') ((execOp ρ o).run P w)
  | .skip=>uN sp o∧∀S w, sp.F i S undef w
  | .alloc T z=>eN sp o∧∀ρ w, (execOp ρ o).run P w=.ok (.value (.pointer (some ⟨w.heap.size, 0, none⟩))) (w.alloc (.cells z T))
  | .fill j=>eN sp o∧∀T z t ρ S w b, sp.K j=.alloc T z→jF ops j=some t→yL ρ→Below w0.heap.size w0 w→(∀b, b<w0.heap.size→S b)→kw sp base ρ S w (sp.ins i) →
      ρ (.tmp t)=.pointer (some ⟨b, 0, none⟩)→w.heap[b]?=some (.cells z T)→¬S b →
      ∃w', (execOp ρ o).run P w=.ok .skip w'∧sP b w w'∧sp.F i (fun x=>S x∨x=b) (.pointer (some ⟨b, 0, none⟩)) w'
structure m6 (listed:Array Bool) (env:Nat→Value) (a:Act):Prop where
  lsize:listed.size=ops.size
  closed:∀i o, listed.getD i false=true→ops[i]?=some o→∀e∈o.after, Region.binds .any e=true→listed.getD e.on false=true
  defers:a.defers=base.defers
  tsize:a.tmps.size=base.tmps.size
  slots:∀t, (∀k, listed.getD k false=true→jF ops k≠some t)→a.tmps[t]?=base.tmps[t]?
  vals:∀j t, listed.getD j false=true→jF ops j=some t→(∀k, listed.getD k false=true→jF ops k=some t→k≠j→c4 ops j k=true)→a.tmps[t]?=some (env j)
structure yM (listed:Array Bool) (env:Nat→Value) (S:Nat→Prop) (w:World):Prop where
  below:Below w0.heap.size w0 w
  sbase:∀b, b<w0.heap.size→S b
  slt:∀b, S b→b<w.heap.size
  facts:∀j, listed.getD j false=true→(sp.K j).isAlloc=false→sp.F j S (env ((sp.K j).who j)) w
  priv:∀j T z, listed.getD j false=true→sp.K j=.alloc T z→(∀k, listed.getD k false=true→sp.K k≠.fill j) →
    ∃b, env j=.pointer (some ⟨b, 0, none⟩)∧¬S b∧w.heap[b]?=some (.cells z T)
  ptrs:∀j T z, listed.getD j false=true→sp.K j=.alloc T z→∃b, env j=.pointer (some ⟨b, 0, none⟩)∧w0.heap.size≤b∧b<w.heap.size
  apart:∀j j' T z T' z' b, listed.getD j false=true→listed.getD j' false=true→sp.K j=.alloc T z→sp.K j'=.alloc T' z'→env j=.pointer (some ⟨b, 0, none⟩)→env j'=.pointer (some ⟨b, 0, none⟩)→j=j'
end
section
variable {P:Program} {ops:Array Oper} {sp:tU} {base:Act} {w0:World}
theorem a7 (l:Array Bool) (i k:Nat) (hi:i<l.size):(l.setIfInBounds i true).getD k false=(if k=i then true else l.getD k false):=by
  by_cases h:k=i
  · subst h;simp[hi]
  · rw[if_neg h]
    simp only[Array.getD_eq_getD_getElem?]
    rw[Array.getElem?_setIfInBounds_ne (fun e=>h e.symm)]
theorem rc {listed:Array Bool} {i j:Nat} (hc:∀o, ops[i]?=some o→∀e∈o.after, Region.binds .any e=true→listed.getD e.on false=true)
    (h:DT ops i j=true):listed.getD j false=true:=by
  unfold DT at h
  split at h
  · rename_i o ho
    simp only[Array.any_eq_true', Bool.and_eq_true, beq_iff_eq]at h
    obtain⟨e, he, hb, rfl⟩:=h
    exact hc o ho e he hb
  · cases h
theorem gH {listed:Array Bool} (hcl:∀i o, listed.getD i false=true→ops[i]?=some o→∀e∈o.after, Region.binds .any e=true→listed.getD e.on false=true) :
    ∀(f i j:Nat), (∀o, ops[i]?=some o→∀e∈o.after, Region.binds .any e=true→listed.getD e.on false=true)→yK ops f i j=true→listed.getD j false=true:=by
  intro f
  induction f with
  | zero=>intro i j hc h;exact rc hc h
  | succ f ih =>
    intro i j hc h
    simp only[yK, Bool.or_eq_true]at h
    rcases h with h | h
    · exact rc hc h
    · split at h
      · rename_i o ho
        simp only[Array.any_eq_true', Bool.and_eq_true]at h
        obtain⟨e, he, ⟨_, hb⟩, h⟩:=h
        exact ih e.on j (fun o' ho'=>hcl e.on o' (hc o ho e he hb) ho') h
      · cases h
structure JV (ops:Array Oper) (sp:tU) (base:Act):Prop where
  top:∀i o, ops[i]?=some o→∀e∈o.after, Region.binds .any e=true→e.on<i
  writes:∀i t, jF ops i=some t→t<base.tmps.size∧∀k, k<i→jF ops k=some t→c4 ops i k=true
  guard:∀i o g want, ops[i]?=some o→o.guard=some (g, want)→c4 ops i g=true∧(sp.K g).isAlloc=false∧(sp.K g).who g=g∧∃t, jF ops g=some t∧lj ops i (some g) t=true
  ins:∀i, i<ops.size→∀p∈sp.ins i, N1 ops sp i p=true
  fill:∀i j, i<ops.size→sp.K i=.fill j→c4 ops i j=true∧(∃t, jF ops j=some t∧lj ops i (some j) t=true)∧(sp.K j).isAlloc=true∧jF ops i=none∧∀k, k<ops.size→sp.K k=.fill j→k=i
theorem Ar (h:Lz ops sp base=true):JV ops sp base:=by
  unfold Lz at h
  simp only[List.all_eq_true, List.mem_range]at h
  have lt:∀i o, ops[i]?=some o→i<ops.size:=fun i o ho=>(Array.getElem?_eq_some_iff.1 ho).1
  refine⟨?_, ?_, ?_, ?_, ?_⟩
  · intro i o ho e he hb
    have:=h i (lt i o ho)
    unfold GU at this
    simp only[ho, Bool.and_eq_true, Array.all_eq_true', Bool.or_eq_true, Bool.not_eq_true', decide_eq_true_eq]at this
    have h2:=this.1.1.1.1 e he
    rcases h2 with h2 | h2
    · rw[hb]at h2;cases h2
    · exact h2
  · intro i t ht
    unfold jF at ht
    cases ho:ops[i]? with
    | none=>rw[ho]at ht;cases ht
    | some o =>
      rw[ho]at ht
      simp only[Option.bind_some]at ht
      have:=h i (lt i o ho)
      unfold GU at this
      simp only[ho, ht, Bool.and_eq_true, decide_eq_true_eq, List.all_eq_true, List.mem_range, Bool.or_eq_true, bne_iff_ne]at this
      refine⟨this.1.1.1.2.1, fun k hk hkt=>?_⟩
      have h2:=this.1.1.1.2.2 k hk
      exact h2.resolve_left (fun hne=>hne hkt)
  · intro i o g want ho hg
    have:=h i (lt i o ho)
    unfold GU at this
    simp only[ho, hg, Bool.and_eq_true]at this
    obtain⟨⟨h1, h2⟩, h3⟩:=this.1.1.2
    refine⟨h1, ?_, ?_, ?_⟩
    · cases hk:sp.K g<;>simp[hk, tT.isAlloc]at h3 ⊢
    · cases hk:sp.K g<;>simp[hk, tT.who]at h3 ⊢
    · cases ht:jF ops g with
      | none=>simp[ht]at h2
      | some t=>exact⟨t, rfl, by simpa[ht]using h2⟩
  · intro i hi p hp
    have:=h i hi
    unfold GU at this
    simp only[Bool.and_eq_true, List.all_eq_true]at this
    exact this.1.2 p hp
  · intro i j hi hk
    have:=h i hi
    unfold GU at this
    simp only[hk, Bool.and_eq_true, List.all_eq_true, List.mem_range, Bool.or_eq_true, beq_iff_eq]at this
    obtain⟨⟨⟨⟨h1, h2⟩, h3⟩, h4⟩, h5⟩:=this.2
    refine⟨h1, ?_, h3, h4, fun k hk' hkk=>?_⟩
    · cases ht:jF ops j with
      | none=>simp[ht]at h2
      | some t=>exact⟨t, rfl, by simpa[ht]using h2⟩
    · rcases h5 k hk' with h6 | h6
      · exact h6
      · rw[hkk]at h6;simp at h6
theorem xv (a:Act) (d:Option Tmp) (v:Value) (t:Tmp) (h:d≠some t):(a.put d v).tmps[t]?=a.tmps[t]?:=by
  cases d with
  | none=>rfl
  | some d=>exact Array.getElem?_setIfInBounds_ne (fun e=>h (by rw[e]))
theorem GV (a:Act) (v:Value) (t:Tmp) (h:t<a.tmps.size):(a.put (some t) v).tmps[t]?=some v:=by
  simp[Act.put, h]
theorem GW (a:Act) (d:Option Tmp) (v:Value):(a.put d v).tmps.size=a.tmps.size:=by
  cases d<;>simp[Act.put]
theorem Au (a:Act) (d:Option Tmp) (v:Value):(a.put d v).defers=a.defers:=by
  cases d<;>rfl
theorem m6.step (hok:JV ops sp base) {listed:Array Bool} {env:Nat→Value} {a:Act} (hF:m6 ops base listed env a) {i:Nat} {o:Oper} (hi:ops[i]?=some o)
    (hnl:listed.getD i false=false) (hr:∀e∈o.after, Region.binds .any e=true→listed.getD e.on false=true) (v:Value) :
    m6 ops base (listed.setIfInBounds i true) (fun k=>if k=i then v else env k) (a.put o.dst v):=by
  have hlt:i<listed.size:=by rw[hF.lsize];exact(Array.getElem?_eq_some_iff.1 hi).1
  have hd:jF ops i=o.dst:=by simp[jF, hi]
  refine⟨by simpa using hF.lsize, ?_, by rw[Au];exact hF.defers, by rw[GW];exact hF.tsize, ?_, ?_⟩
  · intro k ok hk hok' e he hb
    rw[a7 _ _ _ hlt]at hk ⊢
    split
    · rfl
    · by_cases hki:k=i
      · subst hki
        rw[hi]at hok'
        cases hok'
        exact hr e he hb
      · rw[if_neg hki]at hk
        exact hF.closed k ok hk hok' e he hb
  · intro t ht
    have h1:o.dst≠some t:=by
      have:=ht i (by rw[a7 _ _ _ hlt, if_pos rfl])
      rwa [hd]at this
    rw[xv _ _ _ _ h1]
    refine hF.slots t (fun k hk=>ht k ?_)
    rw[a7 _ _ _ hlt]
    split
    · rfl
    · exact hk
  · intro j t hj hjt hw
    by_cases hji:j=i
    · subst hji
      rw[hd]at hjt
      simp only[if_true, hjt]
      refine GV _ _ _ ?_
      rw[hF.tsize]
      exact(hok.writes j t (by rw[hd];exact hjt)).1
    · rw[a7 _ _ _ hlt, if_neg hji]at hj
      have h1:o.dst≠some t:=by
        intro h1
        have hb:=hw i (by rw[a7 _ _ _ hlt, if_pos rfl]) (by rw[hd];exact h1) (fun e=>hji e.symm)
        have:=gH hF.closed 12 j i (fun oj hoj=>hF.closed j oj hj hoj) hb
        rw[hnl]at this
        cases this
      rw[xv _ _ _ _ h1]
      simp only[if_neg hji]
      refine hF.vals j t hj hjt (fun k hk hkt hkj=>hw k ?_ hkt hkj)
      rw[a7 _ _ _ hlt]
      split
      · rfl
      · exact hk
theorem BX (hok:JV ops sp base) {listed:Array Bool} {env:Nat→Value} {a:Act} (hF:m6 ops base listed env a) {i k:Nat} (hnl:listed.getD i false=false) (hk:listed.getD k false=true):(sp.K k).who k≠i:=by
  have hki:k≠i:=by rintro rfl;rw[hnl]at hk;cases hk
  cases hkk:sp.K k with
  | fill j =>
    simp only[tT.who]
    rintro rfl
    have hlt:k<ops.size:=by
      rw[← hF.lsize]
      refine Decidable.byContradiction fun hn=>?_
      simp[Array.getD, hn]at hk
    have hb:=(hok.fill k j hlt hkk).1
    have:=gH hF.closed 12 k j (fun o' ho'=>hF.closed k o' hk ho') hb
    rw[hnl]at this;cases this
  | grow=>exact hki
  | skip=>exact hki
  | alloc T z=>exact hki
theorem yM.grow (hok:JV ops sp base) (hst:∀j, gi (sp.F j)) {listed:Array Bool} {env:Nat→Value} {S:Nat→Prop} {a:Act} {w w':World} (hF:m6 ops base listed env a) (hM:yM sp w0 listed env S w) {i:Nat}
    (hlt:i<listed.size) (hnl:listed.getD i false=false) (hk:sp.K i=.grow∨sp.K i=.skip) {v:Value} (hb:Below w.heap.size w w') (hf:sp.F i (fun b=>S b∨w.heap.size≤b) v w') :
    yM sp w0 (listed.setIfInBounds i true) (fun k=>if k=i then v else env k) (fun b=>S b∨(w.heap.size≤b∧b<w'.heap.size)) w':=by
  have hwi:(sp.K i).who i=i:=by rcases hk with hk | hk<;>rw[hk]<;>rfl
  have hna:∀T z, sp.K i≠.alloc T z:=by rcases hk with hk | hk<;>rw[hk]<;>simp
  have hN:=hM.below.size
  refine⟨hM.below.trans (hb.mono hN), fun b h=>.inl (hM.sbase b h), ?_, ?_, ?_, ?_, ?_⟩
  · rintro b (h | h)
    · exact Nat.lt_of_lt_of_le (hM.slt b h) hb.size
    · exact h.2
  · intro j hj hal
    by_cases hji:j=i
    · subst hji
      rw[hwi]
      simp only[if_true]
      exact hst j _ _ _ _ _ hf (fun b h hl=>h.imp id (fun h=>⟨h, hl⟩)) (fun _ _ _=>rfl) (Nat.le_refl _)
    · rw[a7 _ _ _ hlt, if_neg hji]at hj
      rw[if_neg (BX hok hF hnl hj)]
      exact hst j _ _ _ _ _ (hM.facts j hj hal) (fun b h _=>.inl h) (fun b _ h=>hb.block b h) hb.size
  · intro j T z hj hk' hnf
    by_cases hji:j=i
    · subst hji;exact absurd hk' (hna _ _)
    · rw[a7 _ _ _ hlt, if_neg hji]at hj
      obtain⟨b, h1, h2, h3⟩:=hM.priv j T z hj hk' (fun k hk=>hnf k (by rw[a7 _ _ _ hlt];split<;>first | rfl | exact hk))
      have hbl:b<w.heap.size:=(Array.getElem?_eq_some_iff.1 h3).1
      refine⟨b, by rw[if_neg hji];exact h1, ?_, by rw[hb.block b hbl];exact h3⟩
      rintro(h | h)
      · exact h2 h
      · omega
  · intro j T z hj hk'
    by_cases hji:j=i
    · subst hji;exact absurd hk' (hna _ _)
    · rw[a7 _ _ _ hlt, if_neg hji]at hj
      obtain⟨b, h1, h2, h3⟩:=hM.ptrs j T z hj hk'
      exact⟨b, by rw[if_neg hji];exact h1, h2, Nat.lt_of_lt_of_le h3 hb.size⟩
  · intro j j' T z T' z' b hj hj' hk1 hk2 h1 h2
    have hji:j≠i:=by rintro rfl;exact hna _ _ hk1
    have hji':j'≠i:=by rintro rfl;exact hna _ _ hk2
    rw[a7 _ _ _ hlt, if_neg hji]at hj
    rw[a7 _ _ _ hlt, if_neg hji']at hj'
    rw[if_neg hji]at h1
    rw[if_neg hji']at h2
    exact hM.apart j j' T z T' z' b hj hj' hk1 hk2 h1 h2
theorem yM.alloc (hok:JV ops sp base) (hst:∀j, gi (sp.F j)) {listed:Array Bool} {env:Nat→Value} {S:Nat→Prop} {a:Act} {w:World} (hF:m6 ops base listed env a) (hM:yM sp w0 listed env S w) {i:Nat}
    (hlt:i<listed.size) (hnl:listed.getD i false=false) {T:TypeId} {z:Array Value} (hk:sp.K i=.alloc T z) :
    yM sp w0 (listed.setIfInBounds i true) (fun k=>if k=i then .pointer (some ⟨w.heap.size, 0, none⟩)else env k) S (w.alloc (.cells z T)):=by
  have hN:=hM.below.size
  have hsz:(w.alloc (.cells z T)).heap.size=w.heap.size+1:=by simp
  refine⟨hM.below.alloc hN _, hM.sbase, fun b h=>by have:=hM.slt b h;omega, ?_, ?_, ?_, ?_⟩
  · intro j hj hal
    by_cases hji:j=i
    · subst hji;rw[hk]at hal;cases hal
    · rw[a7 _ _ _ hlt, if_neg hji]at hj
      rw[if_neg (BX hok hF hnl hj)]
      exact hst j _ _ _ _ _ (hM.facts j hj hal) (fun b h _=>h) (fun b _ h=>Below.heap_alloc w _ b h) (by omega)
  · intro j T' z' hj hk' hnf
    by_cases hji:j=i
    · subst hji
      rw[hk]at hk'
      cases hk'
      exact⟨w.heap.size, by simp, fun h=>by have:=hM.slt _ h;omega, heap_alloc_new w _⟩
    · rw[a7 _ _ _ hlt, if_neg hji]at hj
      obtain⟨b, h1, h2, h3⟩:=hM.priv j T' z' hj hk' (fun k hk=>hnf k (by rw[a7 _ _ _ hlt];split<;>first | rfl | exact hk))
      have hbl:b<w.heap.size:=(Array.getElem?_eq_some_iff.1 h3).1
      exact⟨b, by rw[if_neg hji];exact h1, h2, by rw[Below.heap_alloc w _ b hbl];exact h3⟩
  · intro j T' z' hj hk'
    by_cases hji:j=i
    · subst hji
      exact⟨w.heap.size, by simp, hN, by omega⟩
    · rw[a7 _ _ _ hlt, if_neg hji]at hj
      obtain⟨b, h1, h2, h3⟩:=hM.ptrs j T' z' hj hk'
      exact⟨b, by rw[if_neg hji];exact h1, h2, by omega⟩
  · intro j j' T1 z1 T' z' b hj hj' hk1 hk2 h1 h2
    have old:∀k T2 z2, k≠i→(listed.setIfInBounds i true).getD k false=true→sp.K k=.alloc T2 z2→env k=.pointer (some ⟨b, 0, none⟩)→b<w.heap.size:=by
      intro k T2 z2 hki hkl hkk he
      rw[a7 _ _ _ hlt, if_neg hki]at hkl
      obtain⟨b', h1, h2, h3⟩:=hM.ptrs k T2 z2 hkl hkk
      rw[h1]at he
      simp at he
      omega
    by_cases hji:j=i
    · by_cases hji':j'=i
      · rw[hji, hji']
      · rw[if_pos hji]at h1
        rw[if_neg hji']at h2
        have:=old j' _ _ hji' hj' hk2 h2
        simp only[Value.pointer.injEq, Option.some.injEq, Addr.mk.injEq]at h1
        omega
    · by_cases hji':j'=i
      · rw[if_neg hji]at h1
        rw[if_pos hji']at h2
        have:=old j _ _ hji hj hk1 h1
        simp only[Value.pointer.injEq, Option.some.injEq, Addr.mk.injEq]at h2
        omega
      · rw[a7 _ _ _ hlt, if_neg hji]at hj
        rw[a7 _ _ _ hlt, if_neg hji']at hj'
        rw[if_neg hji]at h1
        rw[if_neg hji']at h2
        exact hM.apart j j' _ _ _ _ b hj hj' hk1 hk2 h1 h2
theorem yM.fill (hok:JV ops sp base) (hst:∀j, gi (sp.F j)) {listed:Array Bool} {env:Nat→Value} {S:Nat→Prop} {a:Act} {w w':World} (hF:m6 ops base listed env a) (hM:yM sp w0 listed env S w) {i j0:Nat}
    (hlt:i<listed.size) (hlo:i<ops.size) (hnl:listed.getD i false=false) (hk:sp.K i=.fill j0) {b0:Nat} (hj0:listed.getD j0 false=true) {T0:TypeId} {z0:Array Value} (hk0:sp.K j0=.alloc T0 z0)
    (he:env j0=.pointer (some ⟨b0, 0, none⟩)) (hns:¬S b0) (hb:sP b0 w w')
    (hf:sp.F i (fun x=>S x∨x=b0) (.pointer (some ⟨b0, 0, none⟩)) w') (v:Value) :
    yM sp w0 (listed.setIfInBounds i true) (fun k=>if k=i then v else env k) (fun x=>S x∨x=b0) w':=by
  have hb0:w0.heap.size≤b0∧b0<w.heap.size:=by
    obtain⟨b, h1, h2, h3⟩:=hM.ptrs j0 T0 z0 hj0 hk0
    rw[he]at h1
    simp at h1
    omega
  have hs:∀b, S b→w'.heap[b]?=w.heap[b]?:=fun b h=>hb.block b (fun e=>hns (e ▸ h))
  refine⟨hM.below.trans ⟨hb.os, hb.tape, hb.output, by rw[hb.size];exact Nat.le_refl _, fun k hk=>hb.block k (by omega)⟩, fun b h=>.inl (hM.sbase b h), ?_, ?_, ?_, ?_, ?_⟩
  · rintro b (h | h)
    · rw[hb.size];exact hM.slt b h
    · rw[hb.size, h];exact hb0.2
  · intro j hj hal
    by_cases hji:j=i
    · subst hji
      have hj0i:j0≠j:=by rintro rfl;rw[hnl]at hj0;cases hj0
      rw[hk]
      show sp.F j _ (if j0=j then v else env j0) w'
      rw[if_neg hj0i, he]
      exact hf
    · rw[a7 _ _ _ hlt, if_neg hji]at hj
      rw[if_neg (BX hok hF hnl hj)]
      exact hst j _ _ _ _ _ (hM.facts j hj hal) (fun b h _=>.inl h) (fun b h _=>hs b h) (by rw[hb.size];exact Nat.le_refl _)
  · intro j T z hj hk' hnf
    have hji:j≠i:=by rintro rfl;rw[hk]at hk';cases hk'
    rw[a7 _ _ _ hlt, if_neg hji]at hj
    have hjj:j≠j0:=by
      rintro rfl
      exact hnf i (by rw[a7 _ _ _ hlt, if_pos rfl]) hk
    obtain⟨b, h1, h2, h3⟩:=hM.priv j T z hj hk' (fun k hk=>hnf k (by rw[a7 _ _ _ hlt];split<;>first | rfl | exact hk))
    have hbb:b≠b0:=by
      rintro rfl
      exact hjj (hM.apart j j0 _ _ _ _ b hj hj0 hk' hk0 h1 he)
    refine⟨b, by rw[if_neg hji];exact h1, ?_, by rw[hb.block b hbb];exact h3⟩
    rintro(h | h)
    · exact h2 h
    · exact hbb h
  · intro j T z hj hk'
    have hji:j≠i:=by rintro rfl;rw[hk]at hk';cases hk'
    rw[a7 _ _ _ hlt, if_neg hji]at hj
    obtain⟨b, h1, h2, h3⟩:=hM.ptrs j T z hj hk'
    exact⟨b, by rw[if_neg hji];exact h1, h2, by rw[hb.size];exact h3⟩
  · intro j j' T z T' z' b hj hj' hk1 hk2 h1 h2
    have hji:j≠i:=by rintro rfl;rw[hk]at hk1;cases hk1
    have hji':j'≠i:=by rintro rfl;rw[hk]at hk2;cases hk2
    rw[a7 _ _ _ hlt, if_neg hji]at hj
    rw[a7 _ _ _ hlt, if_neg hji']at hj'
    rw[if_neg hji]at h1
    rw[if_neg hji']at h2
    exact hM.apart j j' T z T' z' b hj hj' hk1 hk2 h1 h2
def Aq (listed:Array Bool):Nat→Nat
  | 0=>0
  | n+1=>Aq listed n+(if listed.getD n false then 0 else 1)
theorem Av (listed:Array Bool):∀n, Aq listed n=0→∀i, i<n→listed.getD i false=true
  | 0, _, i, hi=>by omega
  | n+1, h, i, hi=>by
    simp only[Aq]at h
    by_cases hin:i=n
    · subst hin
      cases hl:listed.getD i false
      · rw[hl]at h;simp at h
      · rfl
    · exact Av listed n (by omega) i (by omega)
theorem DU (listed:Array Bool) (i:Nat) (hi:i<listed.size) (hnl:listed.getD i false=false):∀n, Aq (listed.setIfInBounds i true) n+(if i<n then 1 else 0)=Aq listed n
  | 0=>by simp[Aq]
  | n+1=>by
    have ih:=DU listed i hi hnl n
    simp only[Aq]
    rw[a7 _ _ _ hi]
    by_cases hin:n=i
    · subst hin
      simp only[if_true, hnl]at ih ⊢
      simp at ih ⊢
      exact ih
    · rw[if_neg hin]
      have e:(if i<n+1 then 1 else 0)=(if i<n then 1 else 0):=by
        by_cases h1:i<n
        · rw[if_pos h1, if_pos (by omega)]
        · rw[if_neg h1, if_neg (by omega)]
      rw[e]
      omega
theorem dk (listed:Array Bool) (hs:listed.size=ops.size) (i:Nat):i∈Region.ready .any ops listed ↔
    listed.getD i false=false∧∃o, ops[i]?=some o∧∀e∈o.after, Region.binds .any e=true→listed.getD e.on false=true:=by
  unfold Region.ready
  simp only[List.mem_filter, List.mem_range, Bool.and_eq_true, Bool.not_eq_true']
  constructor
  · rintro⟨hi, h1, h2⟩
    have ho:ops[i]?=some ops[i]:=Array.getElem?_eq_getElem hi
    refine⟨?_, _, ho, ?_⟩
    · have:i<listed.size:=by omega
      simp[this]at h1 ⊢
      exact h1
    · rw[ho]at h2
      simp only[Option.map_some, Option.getD_some, Array.all_eq_true', Bool.or_eq_true, Bool.not_eq_true']at h2
      intro e he hb
      have:=h2 e he
      rw[hb]at this
      simpa using this
  · rintro⟨h1, o, ho, h2⟩
    have hi:i<ops.size:=(Array.getElem?_eq_some_iff.1 ho).1
    refine⟨hi, ?_, ?_⟩
    · have:i<listed.size:=by omega
      simp[this]at h1 ⊢
      exact h1
    · rw[ho]
      simp only[Option.map_some, Option.getD_some, Array.all_eq_true', Bool.or_eq_true, Bool.not_eq_true']
      intro e he
      cases hb:Region.binds .any e
      · exact .inl rfl
      · exact .inr (h2 e he hb)
theorem sQ (hok:JV ops sp base) (listed:Array Bool) (hs:listed.size=ops.size) (h:Region.ready .any ops listed=[]):∀i, i<ops.size→listed.getD i false=true:=by
  intro i
  induction i using Nat.strongRecOn with
  | _ i ih =>
    intro hi
    cases hl:listed.getD i false
    · exfalso
      have ho:ops[i]?=some ops[i]:=Array.getElem?_eq_getElem hi
      have:i∈Region.ready .any ops listed:=(dk listed hs i).2 ⟨hl, _, ho, fun e he hb=>ih e.on (hok.top i _ ho e he hb) (by have:=hok.top i _ ho e he hb;omega)⟩
      rw[h]at this
      cases this
    · rfl
def DV (ops:Array Oper) (m:Nat):Bool:=decide (m≤ops.size)&&(List.range ops.size).all fun k=>decide (k<m)||(List.range k).all fun j=>c4 ops k j
theorem qo {m:Nat} (h:DV ops m=true):m≤ops.size∧∀k, m≤k→k<ops.size→∀j, j<k→c4 ops k j=true:=by
  unfold DV at h
  simp only[Bool.and_eq_true, decide_eq_true_eq, List.all_eq_true, List.mem_range, Bool.or_eq_true]at h
  exact⟨h.1, fun k hk hkn j hj=>(h.2 k hkn).resolve_left (by omega) j hj⟩
theorem pW (n:Nat):∀m, m≤n→Aq (Array.replicate n false) m=m
  | 0, _=>rfl
  | m+1, h=>by
    have hm:m<n:=by omega
    simp[Aq, pW n m (by omega), hm]
end
theorem gi.any:gi (fun _ _ _=>True):=fun _ _ _ _ _ _ _ _ _=>trivial
theorem gi.ex {α:Type} {F:α→(Nat→Prop)→Value→World→Prop} (h:∀x, gi (F x)):gi (fun S v w=>∃x, F x S v w) :=
  fun S S' v w w' ⟨x, hx⟩ h1 h2 h3=>⟨x, h x S S' v w w' hx h1 h2 h3⟩
theorem gi.and {F G:(Nat→Prop)→Value→World→Prop} (h:gi F) (k:gi G):gi (fun S v w=>F S v w∧G S v w) :=
  fun S S' v w w' ⟨x, y⟩ h1 h2 h3=>⟨h S S' v w w' x h1 h2 h3, k S S' v w w' y h1 h2 h3⟩
section
variable {P:Program} {ops:Array Oper} {sp:tU} {base:Act} {w0:World}
def DW (P:Program) (ops:Array Oper) (sp:tU) (base:Act) (w0:World):Nat→List Oper→Prop
  | _, []=>True
  | i, o::r=>rb P ops sp base w0 i o∧DW P ops sp base w0 (i+1) r
theorem DW.at:∀(l:List Oper) (i:Nat), DW P ops sp base w0 i l→∀(k:Nat) (o:Oper), l[k]?=some o→rb P ops sp base w0 (i+k) o
  | [], _, _, k, o, h=>by simp at h
  | x::l, i, h, 0, o, hk=>by simp at hk;subst hk;exact h.1
  | x::l, i, h, k+1, o, hk=>by
    have:=DW.at l (i+1) h.2 k o (by simpa using hk)
    rwa [show i+1+k=i+(k+1)from by omega]at this
theorem rb.grow {i:Nat} {o:Oper} (hk:sp.K i=.grow) (hg:eN sp o)
    (h:∀(ρ:Operand→Value) (S:Nat→Prop) (w:World), yL ρ→Below w0.heap.size w0 w→(∀b, b<w0.heap.size→S b)→kw sp base ρ S w (sp.ins i) →
      pV P (fun v w'=>Below w.heap.size w w'∧sp.F i (fun b=>S b∨w.heap.size≤b) v w') ((execOp ρ o).run P w)):rb P ops sp base w0 i o:=by
  unfold rb
  rw[hk]
  exact⟨hg, h⟩
theorem rb.skip {i:Nat} {o:Oper} (hk:sp.K i=.skip) (hg:uN sp o) (h:∀S w, sp.F i S undef w):rb P ops sp base w0 i o:=by
  unfold rb
  rw[hk]
  exact⟨hg, h⟩
theorem rb.alloc {i:Nat} {o:Oper} {T:TypeId} {z:Array Value} (hk:sp.K i=.alloc T z) (hg:eN sp o)
    (h:∀(ρ:Operand→Value) (w:World), (execOp ρ o).run P w=.ok (.value (.pointer (some ⟨w.heap.size, 0, none⟩))) (w.alloc (.cells z T))):rb P ops sp base w0 i o:=by
  unfold rb
  rw[hk]
  exact⟨hg, h⟩
theorem rb.fill {i:Nat} {o:Oper} {j:Nat} {T:TypeId} {z:Array Value} {t:Tmp} (hk:sp.K i=.fill j) (hk2:sp.K j=.alloc T z) (ht:jF ops j=some t) (hg:eN sp o)
    (h:∀(ρ:Operand→Value) (S:Nat→Prop) (w:World) (b:Nat), yL ρ→Below w0.heap.size w0 w→(∀b, b<w0.heap.size→S b)→kw sp base ρ S w (sp.ins i) →
      ρ (.tmp t)=.pointer (some ⟨b, 0, none⟩)→w.heap[b]?=some (.cells z T)→¬S b →
      ∃w', (execOp ρ o).run P w=.ok .skip w'∧sP b w w'∧sp.F i (fun x=>S x∨x=b) (.pointer (some ⟨b, 0, none⟩)) w'):rb P ops sp base w0 i o:=by
  unfold rb
  rw[hk]
  refine⟨hg, ?_⟩
  intro T' z' t' ρ S w b q1 q2 hc hb hS hI hp hh hn
  rw[hk2]at q1
  rw[ht]at q2
  cases q1
  cases q2
  exact h ρ S w b hc hb hS hI hp hh hn
theorem eN.none {o:Oper} (h:o.guard=.none):eN sp o:=fun g want hg=>by rw[h]at hg;cases hg
theorem eN.some {o:Oper} {g:Nat} {want:Bool} (h:o.guard=.some (g, want)) (hF:∀S v w, sp.F g S v w→v=.bool want):eN sp o:=fun g' want' hg=>by
  rw[h]at hg
  cases hg
  exact hF
theorem uN.some {o:Oper} {g:Nat} {want:Bool} (h:o.guard=.some (g, want)) (hF:∀S v w, sp.F g S v w→v=.bool (!want)∨v=undef):uN sp o:=⟨g, want, h, hF⟩
end
end Go.Proofs.YtckgpflobhpnpaaGreat
