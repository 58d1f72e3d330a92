/-
  A region that draws its order, by facts on its operations' values: one obligation an operation, whatever order the tape picks. Generic: over any program.
-/
import Derived.WalkKit
namespace Go.Proofs.YtckgpflobhpnpaaGreat
open Go.RowKit
set_option linter.unusedVariables false
set_option linter.unusedSimpArgs false
def fW (F:(Nat→Prop)→Value→World→Prop):Prop :=
  ∀(S S':Nat→Prop) (v:Value) (w w':World), F S v w→(∀b, S b→b<w.heap.size→S' b) →
    (∀b, S b→b<w.heap.size→w'.heap[b]?=w.heap[b]?)→w.heap.size≤w'.heap.size→F S' v w'
def oY (P:Program) (R:Value→World→Prop):Result Next→Prop
  | .ok (.value v) w'=>R v w'
  | .ok .skip w'=>R undef w'
  | .ok (.enter f args) w'=>Calls P f args w' (fun e w''=>∃v, e=.returned v∧R v w'')
  | _=>False
theorem oY.upon {P:Program} {R:Value→World→Prop} {o:Oper} {a:Act} {next:Act→World→Prop} {Q:Exit→Act→World→Prop} {r:Result Next}
    (h:oY P R r) (hn:∀v w', R v w'→next (a.put o.dst v) w'):o.upon P a next Q r:=by
  cases r with
  | ok n w' =>
    cases n<;>simp only[oY]at h
    case value v=>exact hn _ _ h
    case skip=>exact hn _ _ h
    case enter f args =>
      refine h.mono ?_
      rintro e w'' ⟨v, rfl, hr⟩
      exact hn _ _ hr
  | halt x w'=>simp only[oY]at h
theorem oY.ok {P:Program} {R:Value→World→Prop} {v:Value} {w':World} (h:R v w'):oY P R (.ok (.value v) w'):=h
theorem oY.enter {P:Program} {R:Value→World→Prop} {f:FuncId} {args:Array Value} {w':World} (h:Calls P f args w' (fun e w''=>∃v, e=.returned v∧R v w'')):oY P R (.ok (.enter f args) w'):=h
theorem oY.of {P:Program} {R:Value→World→Prop} {r:Result Next} {v:Value} {w':World} (h:r=.ok (.value v) w') (hR:R v w'):oY P R r:=by
  rw[h];exact hR
attribute [irreducible] oY
inductive sF where
  | grow
  | skip
  | alloc (T:TypeId) (zero:Array Value)
  | fill (j:Nat)
def sF.isAlloc:sF→Bool | .alloc _ _=>true | _=>false
def sF.who:sF→Nat→Nat | .fill j, _=>j | _, i=>i
structure sG where
  K:Nat→sF
  F:Nat→(Nat→Prop)→Value→World→Prop
  ins:Nat→List (Tmp×Option Nat)
section
variable (P:Program) (ops:Array Oper) (sp:sG) (base:Act) (w0:World)
def BT (i j:Nat):Bool:=match ops[i]? with | some o=>o.after.any (fun e=>Region.binds .any e&&e.on==j) | none=>false
def xd:Nat→Nat→Nat→Bool
  | 0, i, j=>BT ops i j
  | f+1, i, j=>BT ops i j||(match ops[i]? with | some o=>o.after.any (fun e=>Nat.blt j e.on&&Region.binds .any e&&xd f e.on j) | none=>false)
abbrev cH (i j:Nat):Bool:=xd ops 12 i j
def jf (i:Nat):Option Tmp:=(ops[i]?).bind (·.dst)
def kw (i:Nat) (j:Option Nat) (t:Tmp):Bool :=
  (List.range ops.size).all fun k=>jf ops k != some t||k==i||some k==j||cH ops k i||(match j with | some j=>cH ops j k | none=>false)
def Lv (i:Nat) (p:Tmp×Option Nat):Bool :=
  match p.2 with
  | none=>kw ops i none p.1
  | some k=>match sp.K k with
    | .fill j=>jf ops j==some p.1&&cH ops i j&&cH ops i k&&kw ops i (some j) p.1
    | .alloc _ _=>false
    | _=>jf ops k==some p.1&&cH ops i k&&kw ops i (some k) p.1
def ES (i:Nat):Bool :=
  (match ops[i]? with
   | some o=>o.after.all (fun e=>!Region.binds .any e||decide (e.on<i)) &&
      (match o.dst with
       | some t=>decide (t<base.tmps.size)&&(List.range i).all (fun k=>jf ops k != some t||cH ops i k)
       | none=>true) &&
      (match o.guard with
       | some (g, _)=>cH ops i g&&(match jf ops g with | some t=>kw ops i (some g) t | none=>false)&&(match sp.K g with | .alloc _ _=>false | .fill _=>false | _=>true)
       | none=>true)
   | none=>true) &&
  (sp.ins i).all (Lv ops sp i) &&
  (match sp.K i with
   | .fill j=>cH ops i j&&(match jf ops j with | some t=>kw ops i (some j) t | none=>false)&&(sp.K j).isAlloc&&(jf ops i==none) &&
      (List.range ops.size).all (fun k=>k==i||(match sp.K k with | .fill j'=>j' != j | _=>true))
   | .skip=>true
   | _=>true)
def Jc:Bool:=(List.range ops.size).all (ES ops sp base)
def jO (ρ:Operand→Value) (S:Nat→Prop) (w:World):List (Tmp×Option Nat)→Prop
  | []=>True
  | (t, none)::r=>ρ (.tmp t)=base.tmps.getD t undef∧jO ρ S w r
  | (t, some k)::r=>sp.F k S (ρ (.tmp t)) w∧jO ρ S w r
structure rF (b:Nat) (w w':World):Prop where
  os:w'.os=w.os
  tape:w'.tape=w.tape
  output:w'.output=w.output
  size:w'.heap.size=w.heap.size
  block:∀k, k≠b→w'.heap[k]?=w.heap[k]?
def ez (o:Oper):Prop:=∀g want, o.guard=some (g, want)→∀S v w, sp.F g S v w→v=.bool want
def tn (o:Oper):Prop:=∃g want, o.guard=some (g, want)∧∀S v w, sp.F g S v w→v=.bool (!want)∨v=undef
structure xe (ρ:Operand→Value):Prop where
  const:∀v, ρ (.const v)=v
  func:∀f, ρ (.func f)=.func (.func f) #[] #[]
  global:∀g, ρ (.global g)=.pointer (some ⟨g, 0, none⟩)
def qg (i:Nat) (o:Oper):Prop :=
  match sp.K i with
  | .grow=>ez sp o∧∀ρ S w, xe ρ→Below w0.heap.size w0 w→(∀b, b<w0.heap.size→S b)→jO sp base ρ S w (sp.ins i) →
      oY P (fun v w'=>Below w.heap.size w w'∧sp.F i (fun b=>S b∨w.heap.size≤b) v w') ((execOp ρ o).run P w)
  | .skip=>tn sp o∧∀S w, sp.F i S undef w
  | .alloc T z=>ez sp o∧∀ρ w, (execOp ρ o).run P w=.ok (.value (.pointer (some ⟨w.heap.size, 0, none⟩))) (w.alloc (.cells z T))
  | .fill j=>ez sp o∧∀T z t ρ S w b, sp.K j=.alloc T z→jf ops j=some t→xe ρ→Below w0.heap.size w0 w→(∀b, b<w0.heap.size→S b)→jO sp base ρ S w (sp.ins i) →
      ρ (.tmp t)=.pointer (some ⟨b, 0, none⟩)→w.heap[b]?=some (.cells z T)→¬S b →
      ∃w', (execOp ρ o).run P w=.ok .skip w'∧rF b w w'∧sp.F i (fun x=>S x∨x=b) (.pointer (some ⟨b, 0, none⟩)) w'
structure lU (listed:Array Bool) (env:Nat→Value) (a:Act):Prop where
  lsize:listed.size=ops.size
  closed:∀i o, listed.getD i false=true→ops[i]?=some o→∀e∈o.after, Region.binds .any e=true→listed.getD e.on false=true
  defers:a.defers=base.defers
  tsize:a.tmps.size=base.tmps.size
  slots:∀t, (∀k, listed.getD k false=true→jf ops k≠some t)→a.tmps[t]?=base.tmps[t]?
  vals:∀j t, listed.getD j false=true→jf ops j=some t→(∀k, listed.getD k false=true→jf ops k=some t→k≠j→cH ops j k=true)→a.tmps[t]?=some (env j)
structure xf (listed:Array Bool) (env:Nat→Value) (S:Nat→Prop) (w:World):Prop where
  below:Below w0.heap.size w0 w
  sbase:∀b, b<w0.heap.size→S b
  slt:∀b, S b→b<w.heap.size
  facts:∀j, listed.getD j false=true→(sp.K j).isAlloc=false→sp.F j S (env ((sp.K j).who j)) w
  priv:∀j T z, listed.getD j false=true→sp.K j=.alloc T z→(∀k, listed.getD k false=true→sp.K k≠.fill j) →
    ∃b, env j=.pointer (some ⟨b, 0, none⟩)∧¬S b∧w.heap[b]?=some (.cells z T)
  ptrs:∀j T z, listed.getD j false=true→sp.K j=.alloc T z→∃b, env j=.pointer (some ⟨b, 0, none⟩)∧w0.heap.size≤b∧b<w.heap.size
  apart:∀j j' T z T' z' b, listed.getD j false=true→listed.getD j' false=true→sp.K j=.alloc T z→sp.K j'=.alloc T' z'→env j=.pointer (some ⟨b, 0, none⟩)→env j'=.pointer (some ⟨b, 0, none⟩)→j=j'
end
section
variable {P:Program} {ops:Array Oper} {sp:sG} {base:Act} {w0:World}
theorem aW (l:Array Bool) (i k:Nat) (hi:i<l.size):(l.setIfInBounds i true).getD k false=(if k=i then true else l.getD k false):=by
  by_cases h:k=i
  · subst h;simp[hi]
  · rw[if_neg h]
    simp only[Array.getD_eq_getD_getElem?]
    rw[Array.getElem?_setIfInBounds_ne (fun e=>h e.symm)]
theorem qh {listed:Array Bool} {i j:Nat} (hc:∀o, ops[i]?=some o→∀e∈o.after, Region.binds .any e=true→listed.getD e.on false=true)
    (h:BT ops i j=true):listed.getD j false=true:=by
  unfold BT at h
  split at h
  · rename_i o ho
    simp only[Array.any_eq_true', Bool.and_eq_true, beq_iff_eq]at h
    obtain⟨e, he, hb, rfl⟩:=h
    exact hc o ho e he hb
  · cases h
theorem gn {listed:Array Bool} (hcl:∀i o, listed.getD i false=true→ops[i]?=some o→∀e∈o.after, Region.binds .any e=true→listed.getD e.on false=true) :
    ∀(f i j:Nat), (∀o, ops[i]?=some o→∀e∈o.after, Region.binds .any e=true→listed.getD e.on false=true)→xd ops f i j=true→listed.getD j false=true:=by
  intro f
  induction f with
  | zero=>intro i j hc h;exact qh hc h
  | succ f ih =>
    intro i j hc h
    simp only[xd, Bool.or_eq_true]at h
    rcases h with h | h
    · exact qh hc h
    · split at h
      · rename_i o ho
        simp only[Array.any_eq_true', Bool.and_eq_true]at h
        obtain⟨e, he, ⟨_, hb⟩, h⟩:=h
        exact ih e.on j (fun o' ho'=>hcl e.on o' (hc o ho e he hb) ho') h
      · cases h
structure Hv (ops:Array Oper) (sp:sG) (base:Act):Prop where
  top:∀i o, ops[i]?=some o→∀e∈o.after, Region.binds .any e=true→e.on<i
  writes:∀i t, jf ops i=some t→t<base.tmps.size∧∀k, k<i→jf ops k=some t→cH ops i k=true
  guard:∀i o g want, ops[i]?=some o→o.guard=some (g, want)→cH ops i g=true∧(sp.K g).isAlloc=false∧(sp.K g).who g=g∧∃t, jf ops g=some t∧kw ops i (some g) t=true
  ins:∀i, i<ops.size→∀p∈sp.ins i, Lv ops sp i p=true
  fill:∀i j, i<ops.size→sp.K i=.fill j→cH ops i j=true∧(∃t, jf ops j=some t∧kw ops i (some j) t=true)∧(sp.K j).isAlloc=true∧jf ops i=none∧∀k, k<ops.size→sp.K k=.fill j→k=i
theorem yO (h:Jc ops sp base=true):Hv ops sp base:=by
  unfold Jc at h
  simp only[List.all_eq_true, List.mem_range]at h
  have lt:∀i o, ops[i]?=some o→i<ops.size:=fun i o ho=>(Array.getElem?_eq_some_iff.1 ho).1
  refine⟨?_, ?_, ?_, ?_, ?_⟩
  · intro i o ho e he hb
    have:=h i (lt i o ho)
    unfold ES at this
    simp only[ho, Bool.and_eq_true, Array.all_eq_true', Bool.or_eq_true, Bool.not_eq_true', decide_eq_true_eq]at this
    have h2:=this.1.1.1.1 e he
    rcases h2 with h2 | h2
    · rw[hb]at h2;cases h2
    · exact h2
  · intro i t ht
    unfold jf at ht
    cases ho:ops[i]? with
    | none=>rw[ho]at ht;cases ht
    | some o =>
      rw[ho]at ht
      simp only[Option.bind_some]at ht
      have:=h i (lt i o ho)
      unfold ES at this
      simp only[ho, ht, Bool.and_eq_true, decide_eq_true_eq, List.all_eq_true, List.mem_range, Bool.or_eq_true, bne_iff_ne]at this
      refine⟨this.1.1.1.2.1, fun k hk hkt=>?_⟩
      have h2:=this.1.1.1.2.2 k hk
      exact h2.resolve_left (fun hne=>hne hkt)
  · intro i o g want ho hg
    have:=h i (lt i o ho)
    unfold ES at this
    simp only[ho, hg, Bool.and_eq_true]at this
    obtain⟨⟨h1, h2⟩, h3⟩:=this.1.1.2
    refine⟨h1, ?_, ?_, ?_⟩
    · cases hk:sp.K g<;>simp[hk, sF.isAlloc]at h3 ⊢
    · cases hk:sp.K g<;>simp[hk, sF.who]at h3 ⊢
    · cases ht:jf ops g with
      | none=>simp[ht]at h2
      | some t=>exact⟨t, rfl, by simpa[ht]using h2⟩
  · intro i hi p hp
    have:=h i hi
    unfold ES at this
    simp only[Bool.and_eq_true, List.all_eq_true]at this
    exact this.1.2 p hp
  · intro i j hi hk
    have:=h i hi
    unfold ES at this
    simp only[hk, Bool.and_eq_true, List.all_eq_true, List.mem_range, Bool.or_eq_true, beq_iff_eq]at this
    obtain⟨⟨⟨⟨h1, h2⟩, h3⟩, h4⟩, h5⟩:=this.2
    refine⟨h1, ?_, h3, h4, fun k hk' hkk=>?_⟩
    · cases ht:jf ops j with
      | none=>simp[ht]at h2
      | some t=>exact⟨t, rfl, by simpa[ht]using h2⟩
    · rcases h5 k hk' with h6 | h6
      · exact h6
      · rw[hkk]at h6;simp at h6
theorem vQ (a:Act) (d:Option Tmp) (v:Value) (t:Tmp) (h:d≠some t):(a.put d v).tmps[t]?=a.tmps[t]?:=by
  cases d with
  | none=>rfl
  | some d=>exact Array.getElem?_setIfInBounds_ne (fun e=>h (by rw[e]))
theorem ET (a:Act) (v:Value) (t:Tmp) (h:t<a.tmps.size):(a.put (some t) v).tmps[t]?=some v:=by
  simp[Act.put, h]
theorem EU (a:Act) (d:Option Tmp) (v:Value):(a.put d v).tmps.size=a.tmps.size:=by
  cases d<;>simp[Act.put]
theorem yP (a:Act) (d:Option Tmp) (v:Value):(a.put d v).defers=a.defers:=by
  cases d<;>rfl
theorem lU.step (hok:Hv ops sp base) {listed:Array Bool} {env:Nat→Value} {a:Act} (hF:lU ops base listed env a) {i:Nat} {o:Oper} (hi:ops[i]?=some o)
    (hnl:listed.getD i false=false) (hr:∀e∈o.after, Region.binds .any e=true→listed.getD e.on false=true) (v:Value) :
    lU ops base (listed.setIfInBounds i true) (fun k=>if k=i then v else env k) (a.put o.dst v):=by
  have hlt:i<listed.size:=by rw[hF.lsize];exact(Array.getElem?_eq_some_iff.1 hi).1
  have hd:jf ops i=o.dst:=by simp[jf, hi]
  refine⟨by simpa using hF.lsize, ?_, by rw[yP];exact hF.defers, by rw[EU];exact hF.tsize, ?_, ?_⟩
  · intro k ok hk hok' e he hb
    rw[aW _ _ _ hlt]at hk ⊢
    split
    · rfl
    · by_cases hki:k=i
      · subst hki
        rw[hi]at hok'
        cases hok'
        exact hr e he hb
      · rw[if_neg hki]at hk
        exact hF.closed k ok hk hok' e he hb
  · intro t ht
    have h1:o.dst≠some t:=by
      have:=ht i (by rw[aW _ _ _ hlt, if_pos rfl])
      rwa [hd]at this
    rw[vQ _ _ _ _ h1]
    refine hF.slots t (fun k hk=>ht k ?_)
    rw[aW _ _ _ hlt]
    split
    · rfl
    · exact hk
  · intro j t hj hjt hw
    by_cases hji:j=i
    · subst hji
      rw[hd]at hjt
      simp only[if_true, hjt]
      refine ET _ _ _ ?_
      rw[hF.tsize]
      exact(hok.writes j t (by rw[hd];exact hjt)).1
    · rw[aW _ _ _ hlt, if_neg hji]at hj
      have h1:o.dst≠some t:=by
        intro h1
        have hb:=hw i (by rw[aW _ _ _ hlt, if_pos rfl]) (by rw[hd];exact h1) (fun e=>hji e.symm)
        have:=gn hF.closed 12 j i (fun oj hoj=>hF.closed j oj hj hoj) hb
        rw[hnl]at this
        cases this
      rw[vQ _ _ _ _ h1]
      simp only[if_neg hji]
      refine hF.vals j t hj hjt (fun k hk hkt hkj=>hw k ?_ hkt hkj)
      rw[aW _ _ _ hlt]
      split
      · rfl
      · exact hk
theorem Am (hok:Hv ops sp base) {listed:Array Bool} {env:Nat→Value} {a:Act} (hF:lU ops base listed env a) {i k:Nat} (hnl:listed.getD i false=false) (hk:listed.getD k false=true):(sp.K k).who k≠i:=by
  have hki:k≠i:=by rintro rfl;rw[hnl]at hk;cases hk
  cases hkk:sp.K k with
  | fill j =>
    simp only[sF.who]
    rintro rfl
    have hlt:k<ops.size:=by
      rw[← hF.lsize]
      refine Decidable.byContradiction fun hn=>?_
      simp[Array.getD, hn]at hk
    have hb:=(hok.fill k j hlt hkk).1
    have:=gn hF.closed 12 k j (fun o' ho'=>hF.closed k o' hk ho') hb
    rw[hnl]at this;cases this
  | grow=>exact hki
  | skip=>exact hki
  | alloc T z=>exact hki
theorem xf.grow (hok:Hv ops sp base) (hst:∀j, fW (sp.F j)) {listed:Array Bool} {env:Nat→Value} {S:Nat→Prop} {a:Act} {w w':World} (hF:lU ops base listed env a) (hM:xf sp w0 listed env S w) {i:Nat}
    (hlt:i<listed.size) (hnl:listed.getD i false=false) (hk:sp.K i=.grow∨sp.K i=.skip) {v:Value} (hb:Below w.heap.size w w') (hf:sp.F i (fun b=>S b∨w.heap.size≤b) v w') :
    xf sp w0 (listed.setIfInBounds i true) (fun k=>if k=i then v else env k) (fun b=>S b∨(w.heap.size≤b∧b<w'.heap.size)) w':=by
  have hwi:(sp.K i).who i=i:=by rcases hk with hk | hk<;>rw[hk]<;>rfl
  have hna:∀T z, sp.K i≠.alloc T z:=by rcases hk with hk | hk<;>rw[hk]<;>simp
  have hN:=hM.below.size
  refine⟨hM.below.trans (hb.mono hN), fun b h=>.inl (hM.sbase b h), ?_, ?_, ?_, ?_, ?_⟩
  · rintro b (h | h)
    · exact Nat.lt_of_lt_of_le (hM.slt b h) hb.size
    · exact h.2
  · intro j hj hal
    by_cases hji:j=i
    · subst hji
      rw[hwi]
      simp only[if_true]
      exact hst j _ _ _ _ _ hf (fun b h hl=>h.imp id (fun h=>⟨h, hl⟩)) (fun _ _ _=>rfl) (Nat.le_refl _)
    · rw[aW _ _ _ hlt, if_neg hji]at hj
      rw[if_neg (Am hok hF hnl hj)]
      exact hst j _ _ _ _ _ (hM.facts j hj hal) (fun b h _=>.inl h) (fun b _ h=>hb.block b h) hb.size
  · intro j T z hj hk' hnf
    by_cases hji:j=i
    · subst hji;exact absurd hk' (hna _ _)
    · rw[aW _ _ _ hlt, if_neg hji]at hj
      obtain⟨b, h1, h2, h3⟩:=hM.priv j T z hj hk' (fun k hk=>hnf k (by rw[aW _ _ _ hlt];split<;>first | rfl | exact hk))
      have hbl:b<w.heap.size:=(Array.getElem?_eq_some_iff.1 h3).1
      refine⟨b, by rw[if_neg hji];exact h1, ?_, by rw[hb.block b hbl];exact h3⟩
      rintro(h | h)
      · exact h2 h
      · omega
  · intro j T z hj hk'
    by_cases hji:j=i
    · subst hji;exact absurd hk' (hna _ _)
    · rw[aW _ _ _ hlt, if_neg hji]at hj
      obtain⟨b, h1, h2, h3⟩:=hM.ptrs j T z hj hk'
      exact⟨b, by rw[if_neg hji];exact h1, h2, Nat.lt_of_lt_of_le h3 hb.size⟩
  · intro j j' T z T' z' b hj hj' hk1 hk2 h1 h2
    have hji:j≠i:=by rintro rfl;exact hna _ _ hk1
    have hji':j'≠i:=by rintro rfl;exact hna _ _ hk2
    rw[aW _ _ _ hlt, if_neg hji]at hj
    rw[aW _ _ _ hlt, if_neg hji']at hj'
    rw[if_neg hji]at h1
    rw[if_neg hji']at h2
    exact hM.apart j j' T z T' z' b hj hj' hk1 hk2 h1 h2
theorem xf.alloc (hok:Hv ops sp base) (hst:∀j, fW (sp.F j)) {listed:Array Bool} {env:Nat→Value} {S:Nat→Prop} {a:Act} {w:World} (hF:lU ops base listed env a) (hM:xf sp w0 listed env S w) {i:Nat}
    (hlt:i<listed.size) (hnl:listed.getD i false=false) {T:TypeId} {z:Array Value} (hk:sp.K i=.alloc T z) :
    xf sp w0 (listed.setIfInBounds i true) (fun k=>if k=i then .pointer (some ⟨w.heap.size, 0, none⟩)else env k) S (w.alloc (.cells z T)):=by
  have hN:=hM.below.size
  have hsz:(w.alloc (.cells z T)).heap.size=w.heap.size+1:=by simp
  refine⟨hM.below.alloc hN _, hM.sbase, fun b h=>by have:=hM.slt b h;omega, ?_, ?_, ?_, ?_⟩
  · intro j hj hal
    by_cases hji:j=i
    · subst hji;rw[hk]at hal;cases hal
    · rw[aW _ _ _ hlt, if_neg hji]at hj
      rw[if_neg (Am hok hF hnl hj)]
      exact hst j _ _ _ _ _ (hM.facts j hj hal) (fun b h _=>h) (fun b _ h=>Below.heap_alloc w _ b h) (by omega)
  · intro j T' z' hj hk' hnf
    by_cases hji:j=i
    · subst hji
      rw[hk]at hk'
      cases hk'
      exact⟨w.heap.size, by simp, fun h=>by have:=hM.slt _ h;omega, heap_alloc_new w _⟩
    · rw[aW _ _ _ hlt, if_neg hji]at hj
      obtain⟨b, h1, h2, h3⟩:=hM.priv j T' z' hj hk' (fun k hk=>hnf k (by rw[aW _ _ _ hlt];split<;>first | rfl | exact hk))
      have hbl:b<w.heap.size:=(Array.getElem?_eq_some_iff.1 h3).1
      exact⟨b, by rw[if_neg hji];exact h1, h2, by rw[Below.heap_alloc w _ b hbl];exact h3⟩
  · intro j T' z' hj hk'
    by_cases hji:j=i
    · subst hji
      exact⟨w.heap.size, by simp, hN, by omega⟩
    · rw[aW _ _ _ hlt, if_neg hji]at hj
      obtain⟨b, h1, h2, h3⟩:=hM.ptrs j T' z' hj hk'
      exact⟨b, by rw[if_neg hji];exact h1, h2, by omega⟩
  · intro j j' T1 z1 T' z' b hj hj' hk1 hk2 h1 h2
    have old:∀k T2 z2, k≠i→(listed.setIfInBounds i true).getD k false=true→sp.K k=.alloc T2 z2→env k=.pointer (some ⟨b, 0, none⟩)→b<w.heap.size:=by
      intro k T2 z2 hki hkl hkk he
      rw[aW _ _ _ hlt, if_neg hki]at hkl
      obtain⟨b', h1, h2, h3⟩:=hM.ptrs k T2 z2 hkl hkk
      rw[h1]at he
      simp at he
      omega
    by_cases hji:j=i
    · by_cases hji':j'=i
      · rw[hji, hji']
      · rw[if_pos hji]at h1
        rw[if_neg hji']at h2
        have:=old j' _ _ hji' hj' hk2 h2
        simp only[Value.pointer.injEq, Option.some.injEq, Addr.mk.injEq]at h1
        omega
    · by_cases hji':j'=i
      · rw[if_neg hji]at h1
        rw[if_pos hji']at h2
        have:=old j _ _ hji hj hk1 h1
        simp only[Value.pointer.injEq, Option.some.injEq, Addr.mk.injEq]at h2
        omega
      · rw[aW _ _ _ hlt, if_neg hji]at hj
        rw[aW _ _ _ hlt, if_neg hji']at hj'
        rw[if_neg hji]at h1
        rw[if_neg hji']at h2
        exact hM.apart j j' _ _ _ _ b hj hj' hk1 hk2 h1 h2
theorem xf.fill (hok:Hv ops sp base) (hst:∀j, fW (sp.F j)) {listed:Array Bool} {env:Nat→Value} {S:Nat→Prop} {a:Act} {w w':World} (hF:lU ops base listed env a) (hM:xf sp w0 listed env S w) {i j0:Nat}
    (hlt:i<listed.size) (hlo:i<ops.size) (hnl:listed.getD i false=false) (hk:sp.K i=.fill j0) {b0:Nat} (hj0:listed.getD j0 false=true) {T0:TypeId} {z0:Array Value} (hk0:sp.K j0=.alloc T0 z0)
    (he:env j0=.pointer (some ⟨b0, 0, none⟩)) (hns:¬S b0) (hb:rF b0 w w')
    (hf:sp.F i (fun x=>S x∨x=b0) (.pointer (some ⟨b0, 0, none⟩)) w') (v:Value) :
    xf sp w0 (listed.setIfInBounds i true) (fun k=>if k=i then v else env k) (fun x=>S x∨x=b0) w':=by
  have hb0:w0.heap.size≤b0∧b0<w.heap.size:=by
    obtain⟨b, h1, h2, h3⟩:=hM.ptrs j0 T0 z0 hj0 hk0
    rw[he]at h1
    simp at h1
    omega
  have hs:∀b, S b→w'.heap[b]?=w.heap[b]?:=fun b h=>hb.block b (fun e=>hns (e ▸ h))
  refine⟨hM.below.trans ⟨hb.os, hb.tape, hb.output, by rw[hb.size];exact Nat.le_refl _, fun k hk=>hb.block k (by omega)⟩, fun b h=>.inl (hM.sbase b h), ?_, ?_, ?_, ?_, ?_⟩
  · rintro b (h | h)
    · rw[hb.size];exact hM.slt b h
    · rw[hb.size, h];exact hb0.2
  · intro j hj hal
    by_cases hji:j=i
    · subst hji
      have hj0i:j0≠j:=by rintro rfl;rw[hnl]at hj0;cases hj0
      rw[hk]
      show sp.F j _ (if j0=j then v else env j0) w'
      rw[if_neg hj0i, he]
      exact hf
    · rw[aW _ _ _ hlt, if_neg hji]at hj
      rw[if_neg (Am hok hF hnl hj)]
      exact hst j _ _ _ _ _ (hM.facts j hj hal) (fun b h _=>.inl h) (fun b h _=>hs b h) (by rw[hb.size];exact Nat.le_refl _)
  · intro j T z hj hk' hnf
    have hji:j≠i:=by rintro rfl;rw[hk]at hk';cases hk'
    rw[aW _ _ _ hlt, if_neg hji]at hj
    have hjj:j≠j0:=by
      rintro rfl
      exact hnf i (by rw[aW _ _ _ hlt, if_pos rfl]) hk
    obtain⟨b, h1, h2, h3⟩:=hM.priv j T z hj hk' (fun k hk=>hnf k (by rw[aW _ _ _ hlt];split<;>first | rfl | exact hk))
    have hbb:b≠b0:=by
      rintro rfl
      exact hjj (hM.apart j j0 _ _ _ _ b hj hj0 hk' hk0 h1 he)
    refine⟨b, by rw[if_neg hji];exact h1, ?_, by rw[hb.block b hbb];exact h3⟩
    rintro(h | h)
    · exact h2 h
    · exact hbb h
  · intro j T z hj hk'
    have hji:j≠i:=by rintro rfl;rw[hk]at hk';cases hk'
    rw[aW _ _ _ hlt, if_neg hji]at hj
    obtain⟨b, h1, h2, h3⟩:=hM.ptrs j T z hj hk'
    exact⟨b, by rw[if_neg hji];exact h1, h2, by rw[hb.size];exact h3⟩
  · intro j j' T z T' z' b hj hj' hk1 hk2 h1 h2
    have hji:j≠i:=by rintro rfl;rw[hk]at hk1;cases hk1
    have hji':j'≠i:=by rintro rfl;rw[hk]at hk2;cases hk2
    rw[aW _ _ _ hlt, if_neg hji]at hj
    rw[aW _ _ _ hlt, if_neg hji']at hj'
    rw[if_neg hji]at h1
    rw[if_neg hji']at h2
    exact hM.apart j j' T z T' z' b hj hj' hk1 hk2 h1 h2
def yL (listed:Array Bool):Nat→Nat
  | 0=>0
  | n+1=>yL listed n+(if listed.getD n false then 0 else 1)
theorem yQ (listed:Array Bool):∀n, yL listed n=0→∀i, i<n→listed.getD i false=true
  | 0, _, i, hi=>by omega
  | n+1, h, i, hi=>by
    simp only[yL]at h
    by_cases hin:i=n
    · subst hin
      cases hl:listed.getD i false
      · rw[hl]at h;simp at h
      · rfl
    · exact yQ listed n (by omega) i (by omega)
theorem BU (listed:Array Bool) (i:Nat) (hi:i<listed.size) (hnl:listed.getD i false=false):∀n, yL (listed.setIfInBounds i true) n+(if i<n then 1 else 0)=yL listed n
  | 0=>by simp[yL]
  | n+1=>by
    have ih:=BU listed i hi hnl n
    simp only[yL]
    rw[aW _ _ _ hi]
    by_cases hin:n=i
    · subst hin
      simp only[if_true, hnl]at ih ⊢
      simp at ih ⊢
      exact ih
    · rw[if_neg hin]
      have e:(if i<n+1 then 1 else 0)=(if i<n then 1 else 0):=by
        by_cases h1:i<n
        · rw[if_pos h1, if_pos (by omega)]
        · rw[if_neg h1, if_neg (by omega)]
      rw[e]
      omega
theorem cY (listed:Array Bool) (hs:listed.size=ops.size) (i:Nat):i∈Region.ready .any ops listed ↔
    listed.getD i false=false∧∃o, ops[i]?=some o∧∀e∈o.after, Region.binds .any e=true→listed.getD e.on false=true:=by
  unfold Region.ready
  simp only[List.mem_filter, List.mem_range, Bool.and_eq_true, Bool.not_eq_true']
  constructor
  · rintro⟨hi, h1, h2⟩
    have ho:ops[i]?=some ops[i]:=Array.getElem?_eq_getElem hi
    refine⟨?_, _, ho, ?_⟩
    · have:i<listed.size:=by omega
      simp[this]at h1 ⊢
      exact h1
    · rw[ho]at h2
      simp only[Option.map_some, Option.getD_some, Array.all_eq_true', Bool.or_eq_true, Bool.not_eq_true']at h2
      intro e he hb
      have:=h2 e he
      rw[hb]at this
      simpa using this
  · rintro⟨h1, o, ho, h2⟩
    have hi:i<ops.size:=(Array.getElem?_eq_some_iff.1 ho).1
    refine⟨hi, ?_, ?_⟩
    · have:i<listed.size:=by omega
      simp[this]at h1 ⊢
      exact h1
    · rw[ho]
      simp only[Option.map_some, Option.getD_some, Array.all_eq_true', Bool.or_eq_true, Bool.not_eq_true']
      intro e he
      cases hb:Region.binds .any e
      · exact .inl rfl
      · exact .inr (h2 e he hb)
theorem rG (hok:Hv ops sp base) (listed:Array Bool) (hs:listed.size=ops.size) (h:Region.ready .any ops listed=[]):∀i, i<ops.size→listed.getD i false=true:=by
  intro i
  induction i using Nat.strongRecOn with
  | _ i ih =>
    intro hi
    cases hl:listed.getD i false
    · exfalso
      have ho:ops[i]?=some ops[i]:=Array.getElem?_eq_getElem hi
      have:i∈Region.ready .any ops listed:=(cY listed hs i).2 ⟨hl, _, ho, fun e he hb=>ih e.on (hok.top i _ ho e he hb) (by have:=hok.top i _ ho e he hb;omega)⟩
      rw[h]at this
      cases this
    · rfl
def BV (ops:Array Oper) (m:Nat):Bool:=decide (m≤ops.size)&&(List.range ops.size).all fun k=>decide (k<m)||(List.range k).all fun j=>cH ops k j
theorem pA {m:Nat} (h:BV ops m=true):m≤ops.size∧∀k, m≤k→k<ops.size→∀j, j<k→cH ops k j=true:=by
  unfold BV at h
  simp only[Bool.and_eq_true, decide_eq_true_eq, List.all_eq_true, List.mem_range, Bool.or_eq_true]at h
  exact⟨h.1, fun k hk hkn j hj=>(h.2 k hkn).resolve_left (by omega) j hj⟩
theorem oZ (n:Nat):∀m, m≤n→yL (Array.replicate n false) m=m
  | 0, _=>rfl
  | m+1, h=>by
    have hm:m<n:=by omega
    simp[yL, oZ n m (by omega), hm]
end
theorem fW.any:fW (fun _ _ _=>True):=fun _ _ _ _ _ _ _ _ _=>trivial
theorem fW.ex {α:Type} {F:α→(Nat→Prop)→Value→World→Prop} (h:∀x, fW (F x)):fW (fun S v w=>∃x, F x S v w) :=
  fun S S' v w w' ⟨x, hx⟩ h1 h2 h3=>⟨x, h x S S' v w w' hx h1 h2 h3⟩
theorem fW.and {F G:(Nat→Prop)→Value→World→Prop} (h:fW F) (k:fW G):fW (fun S v w=>F S v w∧G S v w) :=
  fun S S' v w w' ⟨x, y⟩ h1 h2 h3=>⟨h S S' v w w' x h1 h2 h3, k S S' v w w' y h1 h2 h3⟩
section
variable {P:Program} {ops:Array Oper} {sp:sG} {base:Act} {w0:World}
def BW (P:Program) (ops:Array Oper) (sp:sG) (base:Act) (w0:World):Nat→List Oper→Prop
  | _, []=>True
  | i, o::r=>qg P ops sp base w0 i o∧BW P ops sp base w0 (i+1) r
theorem BW.at:∀(l:List Oper) (i:Nat), BW P ops sp base w0 i l→∀(k:Nat) (o:Oper), l[k]?=some o→qg P ops sp base w0 (i+k) o
  | [], _, _, k, o, h=>by simp at h
  | x::l, i, h, 0, o, hk=>by simp at hk;subst hk;exact h.1
  | x::l, i, h, k+1, o, hk=>by
    have:=BW.at l (i+1) h.2 k o (by simpa using hk)
    rwa [show i+1+k=i+(k+1)from by omega]at this
theorem qg.grow {i:Nat} {o:Oper} (hk:sp.K i=.grow) (hg:ez sp o)
    (h:∀(ρ:Operand→Value) (S:Nat→Prop) (w:World), xe ρ→Below w0.heap.size w0 w→(∀b, b<w0.heap.size→S b)→jO sp base ρ S w (sp.ins i) →
      oY P (fun v w'=>Below w.heap.size w w'∧sp.F i (fun b=>S b∨w.heap.size≤b) v w') ((execOp ρ o).run P w)):qg P ops sp base w0 i o:=by
  unfold qg
  rw[hk]
  exact⟨hg, h⟩
theorem qg.skip {i:Nat} {o:Oper} (hk:sp.K i=.skip) (hg:tn sp o) (h:∀S w, sp.F i S undef w):qg P ops sp base w0 i o:=by
  unfold qg
  rw[hk]
  exact⟨hg, h⟩
theorem qg.alloc {i:Nat} {o:Oper} {T:TypeId} {z:Array Value} (hk:sp.K i=.alloc T z) (hg:ez sp o)
    (h:∀(ρ:Operand→Value) (w:World), (execOp ρ o).run P w=.ok (.value (.pointer (some ⟨w.heap.size, 0, none⟩))) (w.alloc (.cells z T))):qg P ops sp base w0 i o:=by
  unfold qg
  rw[hk]
  exact⟨hg, h⟩
theorem qg.fill {i:Nat} {o:Oper} {j:Nat} {T:TypeId} {z:Array Value} {t:Tmp} (hk:sp.K i=.fill j) (hk2:sp.K j=.alloc T z) (ht:jf ops j=some t) (hg:ez sp o)
    (h:∀(ρ:Operand→Value) (S:Nat→Prop) (w:World) (b:Nat), xe ρ→Below w0.heap.size w0 w→(∀b, b<w0.heap.size→S b)→jO sp base ρ S w (sp.ins i) →
      ρ (.tmp t)=.pointer (some ⟨b, 0, none⟩)→w.heap[b]?=some (.cells z T)→¬S b →
      ∃w', (execOp ρ o).run P w=.ok .skip w'∧rF b w w'∧sp.F i (fun x=>S x∨x=b) (.pointer (some ⟨b, 0, none⟩)) w'):qg P ops sp base w0 i o:=by
  unfold qg
  rw[hk]
  refine⟨hg, ?_⟩
  intro T' z' t' ρ S w b q1 q2 hc hb hS hI hp hh hn
  rw[hk2]at q1
  rw[ht]at q2
  cases q1
  cases q2
  exact h ρ S w b hc hb hS hI hp hh hn
theorem ez.none {o:Oper} (h:o.guard=.none):ez sp o:=fun g want hg=>by rw[h]at hg;cases hg
theorem ez.some {o:Oper} {g:Nat} {want:Bool} (h:o.guard=.some (g, want)) (hF:∀S v w, sp.F g S v w→v=.bool want):ez sp o:=fun g' want' hg=>by
  rw[h]at hg
  cases hg
  exact hF
theorem tn.some {o:Oper} {g:Nat} {want:Bool} (h:o.guard=.some (g, want)) (hF:∀S v w, sp.F g S v w→v=.bool (!want)∨v=undef):tn sp o:=⟨g, want, h, hF⟩
end
end Go.Proofs.YtckgpflobhpnpaaGreat
