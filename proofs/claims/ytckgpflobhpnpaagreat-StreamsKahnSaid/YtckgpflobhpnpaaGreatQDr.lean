/-
  Regions that draw their order: new boxes may be used at once. Generic: over any program.
-/
import Derived.Test.YtckgpflobhpnpaaGreatQKb
namespace Go.Proofs.YtckgpflobhpnpaaGreat
open Go.RowKit
set_option linter.unusedVariables false
set_option linter.unusedSimpArgs false
mutual
def nD:D→(D→Prop)→Prop
 | .v x, k=>nV x (fun x=>k (.v x))
 | .agg cs, k=>nL cs (fun cs=>k (.agg cs))
 | .tup cs, k=>nL cs (fun cs=>k (.tup cs))
 | .fn f a b, k=>nL a (fun a=>nL b (fun b=>k (.fn f a b)))
 | .nils, k=>k .nils
 | .own i, k=>k (.own i)
 | .ptr i a b c, k=>k (.ptr i a b c)
 | .iptr cs o, k=>k (.iptr cs o)
 | .yld i, k=>k (.yld i)
 | .capd x, k=>k (.capd x)
 | .gr g r, k=>k (.gr g r)
 | .junk, k=>k .junk
def nV:V→(V→Prop)→Prop
 | .int a n, k=>k (.int a n)
 | .bool b, k=>k (.bool b)
 | .str s, k=>k (.str s)
 | .sl sz enc d l, k=>k (.sl sz enc d l)
 | .mp es, k=>k (.mp es)
 | .nilf, k=>k .nilf
 | .nsl, k=>k .nsl
 | .esl, k=>k .esl
 | .sm true enc d l, k=>k (.sm true enc d l)
 | .sm false enc d l, k=>k (.sm false enc d l)
 | .nmp, k=>k .nmp
def nL:List D→(List D→Prop)→Prop
 | [], k=>k []
 | d::r, k=>nD d (fun d=>nL r (fun r=>k (d::r)))
end
theorem LM:∀(x:V) (k:V→Prop), nV x k=k x:=by
 intro x k
 cases x with
 | sm ag enc d l=>cases ag<;>rfl
 | _=>rfl
mutual
theorem Cq:∀(d:D) (k:D→Prop), nD d k=k d
 | .v x, k=>LM x _
 | .agg cs, k=>wm cs _
 | .tup cs, k=>wm cs _
 | .fn f a b, k=>(wm a _).trans (wm b _)
 | .nils, k=>rfl
 | .own i, k=>rfl
 | .ptr i a b c, k=>rfl
 | .iptr cs o, k=>rfl
 | .yld i, k=>rfl
 | .capd x, k=>rfl
 | .gr g r, k=>rfl
 | .junk, k=>rfl
theorem wm:∀(l:List D) (k:List D→Prop), nL l k=k l
 | [], k=>rfl
 | d::r, k=>(Cq d _).trans (wm r _)
end
def nE:List (Nat×D)→(List (Nat×D)→Prop)→Prop
 | [], k=>k []
 | (t, d)::r, k=>nD d (fun d=>nE r (fun r=>k ((t, d)::r)))
theorem Jj:∀(l:List (Nat×D)) (k:List (Nat×D)→Prop), nE l k=k l
 | [], k=>rfl
 | (t, d)::r, k=>(Cq d _).trans (Jj r _)
def nB:aq→(aq→Prop)→Prop
 | .dead, k=>k .dead
 | .var T cs, k=>nL cs (fun cs=>k (.var T cs))
 | .arr E sz enc d l, k=>k (.arr E sz enc d l)
 | .loop l tm nt env ps a b s p, k=>k (.loop l tm nt env ps a b s p)
 | .frame tm env, k=>k (.frame tm env)
 | .ro E sz enc d l, k=>k (.ro E sz enc d l)
 | .mpb t ag enc d l, k=>k (.mpb t ag enc d l)
 | .arrD E sz n gs cell, k=>k (.arrD E sz n gs cell)
 | .grp n f, k=>k (.grp n f)
 | .nest E sz n ce m f, k=>k (.nest E sz n ce m f)
theorem Fh (b:aq) (k:aq→Prop):nB b k=k b:=by
 cases b with
 | var T cs=>exact wm cs _
 | _=>rfl
def nH:List aq→(List aq→Prop)→Prop
 | [], k=>k []
 | b::r, k=>nB b (fun b=>nH r (fun r=>k (b::r)))
theorem Jk:∀(l:List aq) (k:List aq→Prop), nH l k=k l
 | [], k=>rfl
 | b::r, k=>(Fh b _).trans (Jk r _)
def nS (st:St) (k:St→Prop):Prop:=nE st.env (fun e=>nH st.heap (fun h=>k ⟨e, h⟩))
theorem mh (st:St) (k:St→Prop):nS st k=k st:=(Jj _ _).trans (Jk _ _)
def xH (P:Program) (nt:Nat) (ops:List Oper) (ovs:List (Nat×Ov)):Nat→List Oper→St→(St→Prop)→Prop
 | _, [], st, k=>k st
 | i, o::r, st, k=>match f8 ops st o with
  | some true=>match pc P nt (oL ovs i) o st with
   | (st1, p1)=>p1∧xH P nt ops ovs (i+1) r st1 k
  | some false=>match mb nt st o.dst with
   | (st1, p1)=>p1∧xH P nt ops ovs (i+1) r st1 k
  | none=>False
theorem tC {P:Program} {nt:Nat} {ops:List Oper} {ovs:List (Nat×Ov)}:∀(r:List Oper) (i:Nat) (st:St) (k:St→Prop), xH P nt ops ovs i r st k→(c5 P nt ops ovs i r st).2∧k (c5 P nt ops ovs i r st).1
 | [], i, st, k, h=>⟨trivial, h⟩
 | o::r, i, st, k, h=>by
  unfold xH at h
  unfold c5
  split at h
  ·rename_i hg
   rw[hg]
   simp only
   generalize hq:pc P nt (oL ovs i) o st=q at h
   obtain⟨st1, p1⟩:=q
   obtain⟨h1, h2⟩:=h
   have h3:=tC r (i+1) st1 k h2
   exact⟨⟨h1, h3.1⟩, h3.2⟩
  ·rename_i hg
   rw[hg]
   simp only
   generalize hq:mb nt st o.dst=q at h
   obtain⟨st1, p1⟩:=q
   obtain⟨h1, h2⟩:=h
   have h3:=tC r (i+1) st1 k h2
   exact⟨⟨h1, h3.1⟩, h3.2⟩
  ·exact h.elim
structure Mk:Type 1 where
 make ::
 d:D
 b:aq
 kl:Option Nat
abbrev nu (d:D) (b:aq):Mk:=.make d b none
def Mk.kil (k:Mk):Option Nat:=match k.b with | .var _ _=>none | _=>k.kl
def Mk.fil (k:Mk):Option Nat:=match k.b with | .var _ _=>k.kl | _=>none
theorem JV {k:Mk} {i:Nat} (h:k.kil=some i):k.kl=some i:=by
 unfold Mk.kil at h
 split at h
 ·cases h
 ·exact h
theorem uG {k:Mk} {i:Nat} (h:k.fil=some i):k.kl=some i:=by
 unfold Mk.fil at h
 split at h
 ·exact h
 ·cases h
theorem uH {k:Mk} (h:k.kl=none):k.fil=none:=by
 unfold Mk.fil
 split
 ·exact h
 ·rfl
theorem HQ {k:Mk} (h:k.b.isOwn=true∨k.b=.dead):k.fil=none:=by
 unfold Mk.fil
 split
 ·rename_i T cs hb
  rcases h with h | h<;>rw[hb]at h<;>cases h
 ·rfl
theorem JW {k:Mk} (h:k.fil=none):k.kil=k.kl:=by
 unfold Mk.fil at h
 unfold Mk.kil
 cases hb:k.b<;>rw[hb]at h<;>first | rfl | exact h.symm
def nK:Option Nat→(Option Nat→Prop)→Prop
 | none, k=>k none
 | some i, k=>k (some i)
theorem Jl (o:Option Nat) (k:Option Nat→Prop):nK o k=k o:=by cases o<;>rfl
def HR (H:List aq) (fz:Bool) (E sz:Nat) {α:Type} (enc:α→List V) (d:α) (l:List α) (kl:Option Nat) (p:Prop):Option (Mk×Prop):=match fz with
 | false=>some (.make (.own H.length) (.arr E sz enc d l) kl, p)
 | true=>some (.make (.v (.sl sz enc d l)) .dead kl, p)
def iI:Option (Mk×Prop):=some (nu .junk .dead, False)
def Fj (P:Program) (H:List aq) (fz:Bool) (E sz:Nat) {α:Type} (enc:α→List V) (d:α) (l:List α) (t:TypeId) (s x:D):Option (Mk×Prop):=match P.underlying t with
 | some (.slice E0)=>match iB P E0, wg H (aD P E0) x with
  | some z, some new=>match ct P E0&&Nat.beq z.length (aD P E0)&&Nat.ble 1 (aD P E0)&&Nat.ble (iE P E0) 1024&&(Nat.beq E E0&&Nat.beq sz (aD P E0))with
   | true=>match s with
    | .own id=>match H[id]? with
     | some (.arr E' sz' enc0 _ l0)=>match Nat.beq E' E0&&Nat.beq sz' (aD P E0)&&D.free id x with
      | true=>HR H fz E sz enc d l (some id) (l0.length+new.length≤137438953472∧l0.map enc0++new=l.map enc)
      | false=>iI
     | _=>iI
    | .nils=>HR H fz E sz enc d l none (new.length≤137438953472∧new=l.map enc)
    | _=>iI
   | false=>iI
  | _, _=>iI
 | _=>iI
def Fk (P:Program) (H:List aq) (ρ:Operand→D) (ov:Ov) (op:Op):Option (Mk×Prop):=match op with
 | .call ⟨.value f, args, _⟩=>match ov, ρ f with
  | .ownd as r B, .fn (.func g) first cap=>match hC P g&&(AF r&&(B.isOwn&&fl (first++args.toList.map ρ++cap)))with
   | true=>some (nu (r.up H.length) B, tx P g H (first++args.toList.map ρ++cap) as r B)
   | false=>iI
  | _, _=>none
 | .call ⟨.builtin .append, args, ats⟩=>match ov, args.toList, ats.toList with
  | .app fz E sz enc d l, [s, x], [t, t']=>match Nat.beq t t' with
   | true=>Fj P H fz E sz enc d l t (ρ s) (ρ x)
   | false=>iI
  | _, _, _=>none
 | .buildSlice t len parts=>match ov with
  | .app false E sz enc d l=>match rU P H (.box E sz enc d l) t len (parts.toList.map fun p=>(p.1, ρ p.2))with
   | (.v _, p)=>some (nu (.own H.length) (.arr E sz enc d l), p)
   | _=>iI
  | _=>none
 | _=>none
def HS (P:Program) (H:List aq) (ρ:Operand→D) (ov:Ov) (op:Op):Mk×Prop :=
 match op with
 | .alloc T=>match iB P T with
  | some z=>match D.freeL H.length z with
   | true=>(nu (.ptr H.length 0 0 0) (.var T z), True)
   | false=>(nu (.junk) (.dead), False)
  | none=>(nu (.junk) (.dead), False)
 | .box T x=>match jC H (ρ x)with
  | some cs=>match D.freeL H.length cs with
   | true=>(nu (.ptr H.length 0 0 0) (.var T cs), True)
   | false=>(nu (.junk) (.dead), False)
  | none=>(nu (.junk) (.dead), False)
 | .makeSlice t l c=>match P.underlying t, ρ l, ρ c with
  | some (.slice E), .v (.int _ n), .v (.int _ m)=>match iB P E with
   | some z=>match ct P E&&Nat.beq z.length (aD P E)&&Nat.ble 1 (aD P E)&&Nat.ble (iE P E) 1024 with
    | true=>match ov with
     | .box E' sz' enc' d' l'=>match Nat.beq E E'&&Nat.beq (aD P E) sz' with
      | true=>(nu (.own H.length) (.arr E (aD P E) enc' d' l'), (0≤n∧n≤m∧m≤137438953472)∧l'.length=n.toNat∧∀x∈l', cS z (enc' x))
      | false=>(nu (.junk) (.dead), False)
     | .frz E' sz' enc' d' l'=>match Nat.beq E E'&&Nat.beq (aD P E) sz' with
      | true=>(nu (.v (.sl (aD P E) enc' d' l')) (.dead), (0≤n∧n≤m∧m≤137438953472)∧l'.length=n.toNat∧∀x∈l', cS z (enc' x))
      | false=>(nu (.junk) (.dead), False)
     | _=>(nu (.junk) (.dead), False)
    | false=>(nu (.junk) (.dead), False)
   | none=>(nu (.junk) (.dead), False)
  | _, _, _=>(nu (.junk) (.dead), False)
 | .makeMap t none=>match ov with
  | .mbox t' ag enc d _=>match Nat.beq t t' with
   | true=>(nu (.own H.length) (.mpb t ag enc d []), True)
   | false=>(nu (.junk) (.dead), False)
  | _=>(nu (.junk) (.dead), False)
 | op=>match Fk P H ρ ov op with
  | some q=>q
  | none=>match M1 P H ρ ov op with
   | (d, p)=>(nu (d) (.dead), p)
def kF:Op→Bool
 | .store _ _ _=>true
 | _=>false
def AU (P:Program) (H:List aq) (t:TypeId) (a x:D):Mk×Prop:=match a, jC [] x with
 | .ptr id i _ off, some new=>match H[id]? with
  | some (.var T cs)=>match ct P t&&Nat.beq new.length (aD P t)&&new.all (vE [])&&(Nat.beq i 0&&Nat.ble (off+new.length) cs.length)with
   | true=>(.make (.tup []) (.var T (fk cs new off)) (some id), True)
   | false=>(nu .junk .dead, False)
  | _=>(nu .junk .dead, False)
 | _, _=>(nu .junk .dead, False)
def uI (P:Program) (H:List aq) (ρ:Operand→D) (ov:Ov) (op:Op):Mk×Prop:=match op with
 | .store t a x=>AU P H t (ρ a) (ρ x)
 | op=>HS P H ρ ov op
theorem Fl {P:Program} {H:List aq} {ρ:Operand→D} {ov:Ov} {op:Op} (h:kF op=false):uI P H ρ ov op=HS P H ρ ov op:=by
 cases op<;>first | rfl | cases h
theorem AV {x:D} {new:List D} (h:jC [] x=some new) (H:List aq):jC H x=some new:=by
 cases x<;>first | exact h | (simp[jC]at h)
theorem Fm {x:D} (h:vE [] x=true) (H:List aq):vE H x=true:=by
 cases x<;>first | exact h | (simp[vE]at h)
theorem HT {new:List D} (h:new.all (vE [])=true) (H:List aq):new.all (vE H)=true:=by
 rw[List.all_eq_true]at h ⊢
 exact fun x hx=>Fm (h x hx) H
theorem AW {P:Program} {H:List aq} {t:TypeId} {a x:D} {k:Mk} {p:Prop} (h:AU P H t a x=(k, p)) (hp:p) :
  ∃(id:Nat) (T:TypeId) (cs cs':List D), H[id]?=some (.var T cs)∧k=.make (.tup []) (.var T cs') (some id) ∧
   ∀(st:St), st.heap[id]?=some (.var T cs)→ur P st .none t a x=(⟨st.env, st.heap.set id (.var T cs')⟩, True):=by
 unfold AU at h
 split at h
 ·rename_i id i sz off new hnew
  split at h
  ·rename_i T cs hbox
   split at h
   ·rename_i hc
    simp only[Prod.mk.injEq]at h
    obtain⟨rfl, rfl⟩:=h
    refine⟨id, T, cs, _, hbox, rfl, fun st hst=>?_⟩
    simp only[Bool.and_eq_true]at hc
    obtain⟨⟨⟨h1, h2⟩, h3⟩, h4, h5⟩:=hc
    unfold ur
    rw[AV hnew st.heap]
    simp only[h1, h2, HT h3 st.heap, Bool.and_self, if_true, hst, h4, h5]
   ·cases h;exact hp.elim
  ·cases h;exact hp.elim
 ·cases h;exact hp.elim
section
variable {P:Program} {S:Nat→Prop} {μ:Nat→Value} {w:World}
theorem zc {E:TypeId} {z:List D} {i:TypeInfo} {v:Value} {n m:Int} {α:Type} {enc:α→List V} {d:α} {l:List α} {μ':Nat→Value} (hz:iB P E=some z) (hi:P.info? E=some i) (hv:i.zero=some v) (hzz:z=v.cells.toList.map D.ofVal1) (hsz:i.size=aD P E)
  (hzl:z.length=aD P E) (hs1:1≤aD P E) (h0:0≤n) (hnm:n≤m) (hm:m≤137438953472) (hlen:l.length=n.toNat) (hrows:∀x∈l, cS z (enc x)) :
  aJ S μ' (w.alloc (.cells (madeCells v.cells (m.toNat*i.size)) E)) (.slice (some ⟨w.heap.size, 0, none⟩) n.toNat m.toNat) (.arr E (aD P E) enc d l):=by
 have hzr:aM S μ' w z v.cells:=by
  rw[hzz]
  refine⟨by simp, fun j y u hy hu=>?_⟩
  simp only[List.getElem?_map, Array.getElem?_toList, hu, Option.map_some, Option.some.injEq]at hy
  subst hy
  exact ak.ofVal1 S μ' w u
 have hvs:v.cells.size=aD P E:=by rw[hzr.1, hzl]
 refine aJ.arr_mk ?_
 refine⟨fun k x hx=>?_, (madeCells v.cells (m.toNat*i.size)).toList.take (n.toNat*aD P E), ?_, fun k x j y hx hy=>?_⟩
 ·obtain⟨q, hq, rfl⟩:=dH hx
  rw[← (eZ (hrows q (List.mem_of_getElem? hq))).1, hzl]
 ·have hle:n.toNat*aD P E≤m.toNat*i.size:=by rw[hsz];exact Nat.mul_le_mul_right _ (by omega)
  refine⟨by simp[size_madeCells, hlen];omega, .inr ⟨w.heap.size, m.toNat, madeCells v.cells (m.toNat*i.size), by simp[hlen], Nat.zero_le _, heap_alloc_new w _, by simp[hlen];omega, by simp only[maxLen];omega, by rw[size_madeCells, hsz], by simp[hlen]⟩⟩
 ·obtain⟨q, hq, rfl⟩:=dH hx
  have hkl:k<n.toNat:=by rw[← hlen];exact(List.getElem?_eq_some_iff.1 hq).1
  obtain⟨r1, r2⟩:=eZ (hrows q (List.mem_of_getElem? hq))
  obtain⟨d, hd, hdy⟩:=r2 j y hy
  have hj:j<aD P E:=by rw[← hzl];exact(List.getElem?_eq_some_iff.1 hd).1
  have hjv:j<v.cells.size:=by omega
  have hkk:(k+1)*aD P E≤n.toNat*aD P E:=Nat.mul_le_mul_right _ hkl
  rw[Nat.succ_mul]at hkk
  have hle:n.toNat*aD P E≤m.toNat*i.size:=by rw[hsz];exact Nat.mul_le_mul_right _ (by omega)
  refine⟨v.cells[j], ?_, (l9 hdy (hzr.2 j d _ hd (Array.getElem?_eq_getElem hjv))).stable (fun _ h _=>h) (fun b hb hl=>Below.heap_alloc w _ b hl) (by simp)⟩
  rw[List.getElem?_take, if_pos (by omega), Array.getElem?_toList]
  unfold madeCells
  rw[Array.getElem?_map, Array.getElem?_range, if_pos (by omega)]
  simp only[Option.map_some, Option.some.injEq]
  rw[hvs, Nat.mul_add_mod_of_lt' hj]
  simp[hjv]
def JX (S:Nat→Prop) (μ:Nat→Value) (w:World) (H:List aq) (k:Mk) (u:Value) (w':World):Prop :=
 (k.kl=none∧Below w.heap.size w w'∧((k.b=.dead∧ak (fun b=>S b∨w.heap.size≤b) μ w' k.d u)∨(∃obj, k.b.live=true∧w'=w.alloc obj∧aJ S (aV μ H.length u) w' u k.b∧ak S (aV μ H.length u) w' k.d u∧∀b, bE u b→b=w.heap.size) ∨
  (∃(S2:Nat→Prop) (μ1:Nat→Value) (u0:Value), k.b.isOwn=true∧(∀b, S b→S2 b)∧(∀b, S2 b→S b∨w.heap.size≤b)∧(∀b, S2 b→b<w'.heap.size)∧aJ S2 μ1 w' u0 k.b∧ak S2 (aV μ H.length u0) w' k.d u∧∀b, bE u0 b→w.heap.size≤b∧¬S2 b))) ∨
 (∃(id:Nat) (A B:aq), k.kl=some id∧H[id]?=some A∧A.isArr=true∧B.isArr=true∧w.grownBy w' (aG (μ id))∧aJ S μ w' u B∧(∀b, bE u b→aG (μ id)=some b∨w.heap.size≤b) ∧
  ((k.b=B∧k.d=.own H.length)∨∃(E sz:Nat) (α:Type) (enc:α→List V) (d:α) (l:List α), B=.arr E sz enc d l∧k.b=.dead∧k.d=.v (.sl sz enc d l)))
theorem AX {H:List aq} (hH:a9 S μ w H) {E0 sz0:Nat} {α:Type} {enc0:α→List V} {d0:α} {l0:List α} {t:TypeId} {len:Nat} {parts:List (Nat×D)} {uparts:List (Nat×Value)} (h1:parts.map (·.1)=uparts.map (·.1))
  (h2:∀(j:Nat) (x:Nat×D) (u:Nat×Value), parts[j]?=some x→uparts[j]?=some u→ak S μ w x.2 u.2) (hS:∀b, S b→b<w.heap.size) {d:D} {p:Prop} (hp:rU P H (.box E0 sz0 enc0 d0 l0) t len parts=(d, p)) (hob:p) (hne:∃x, d=.v x) :
  ∃vs, (Instr.buildSlice t len uparts.toArray).run P w=.ok (.slice (some ⟨w.heap.size, 0, none⟩) len len) (w.alloc (.cells vs E0))∧aJ S μ (w.alloc (.cells vs E0)) (.slice (some ⟨w.heap.size, 0, none⟩) len len) (.arr E0 sz0 enc0 d0 l0):=by
 unfold rU at hp
 split at hp
 ·rename_i E hu
  split at hp
  ·rename_i z hz
   split at hp
   ·rename_i hc
    simp only[Bool.and_eq_true, Nat.beq_eq, Nat.ble_eq]at hc
    obtain⟨⟨⟨hk, hzl⟩, hs1⟩, hcap⟩:=hc
    obtain⟨i, v, hi, hv, hzz, hsz, hby⟩:=jk hz
    split at hp
    ·rename_i cells hf
     have hzr:aM S μ w z v.cells:=by
      rw[hzz]
      refine⟨by simp, fun j y u hy hu=>?_⟩
      simp only[List.getElem?_map, Array.getElem?_toList, hu, Option.map_some, Option.some.injEq]at hy
      subst hy
      exact ak.ofVal1 S μ w u
     have hflat:=rS (P:=P) hzr hzl (by omega) len
     obtain⟨vs, hfill, hvs⟩:=eW hH parts uparts _ cells _ h1 h2 hflat hf
     rw[← hsz]at hfill
     have hrun:=iG (P:=P) (w:=w) hu hi hv (by rw[hsz];exact hcap) hfill
     have hcl:cells.length=len*aD P E:=by
      have:∀(parts:List (Nat×D)) (c0 out:List D), gz H (fun i=>some (i*aD P E, aD P E)) c0 parts=some out→out.length=c0.length:=by
       intro parts
       induction parts with
       | nil=>intro c0 out h;simp only[gz, Option.some.injEq]at h;rw[h]
       | cons q r ih =>
        intro c0 out h
        obtain⟨k, x⟩:=q
        unfold gz at h
        split at h
        ·split at h
         ·rename_i hcond
          simp only[Bool.and_eq_true, Nat.ble_eq]at hcond
          rw[ih _ _ h]
          simp[fk]
          omega
         ·cases h
        ·cases h
      rw[this _ _ _ hf]
      simp[hzl]
     have hlen:len≤maxLen:=by
      have:len*1≤len*aD P E:=Nat.mul_le_mul_left _ hs1
      simp only[maxLen]
      omega
     simp only at hp
     split at hp
     ·rename_i hc
      simp only[Bool.and_eq_true, Nat.beq_eq]at hc
      obtain⟨rfl, rfl⟩:=hc
      simp only[Prod.mk.injEq]at hp
      obtain⟨rfl, rfl⟩:=hp
      refine⟨vs, hrun, ?_⟩
      obtain⟨q1, q2⟩:=kB hob
      have hA:eM S (w.alloc (.cells vs E)) E (aD P E) (l0.map enc0) (.slice (some ⟨w.heap.size, 0, none⟩) len len):=by
       refine tB hvs hcl hlen (by rw[← q1];simp[pb]) (fun i x hx=>?_) hS
       obtain⟨r, hr, hrow⟩:=q2 i x hx
       obtain⟨r1, r2⟩:=eZ hrow
       obtain⟨hin, rfl⟩:=jR _ _ _ hr
       refine⟨?_, fun j y hy=>?_⟩
       ·rw[← r1, List.length_take, List.length_drop, hcl]
        have:(i+1)*aD P E≤len*aD P E:=Nat.mul_le_mul_right _ hin
        rw[Nat.succ_mul]at this
        omega
       ·obtain⟨d, hd, hdy⟩:=r2 j y hy
        exact⟨d, kC hr hd, fun u hu=>l9 hdy hu⟩
      exact hA.box rfl
     ·cases hp;exact hob.elim
    ·cases hp;exact hob.elim
   ·cases hp;exact hob.elim
  ·cases hp;exact hob.elim
 ·cases hp;exact hob.elim
theorem zd {H:List aq} {fz:Bool} {E sz:Nat} {α:Type} {enc:α→List V} {d:α} {l:List α} {kl:Option Nat} {q:Prop} {k:Mk} {p:Prop} (h:HR H fz E sz enc d l kl q=some (k, p)) :
  p=q∧k.kl=kl∧((k.b=.arr E sz enc d l∧k.d=.own H.length)∨(k.b=.dead∧k.d=.v (.sl sz enc d l))):=by
 unfold HR at h
 cases fz<;>simp only[Option.some.injEq, Prod.mk.injEq]at h<;>obtain⟨rfl, rfl⟩:=h
 ·exact⟨rfl, rfl, .inl ⟨rfl, rfl⟩⟩
 ·exact⟨rfl, rfl, .inr ⟨rfl, rfl⟩⟩
theorem dh {k:Mk} {p:Prop} (h:iI=some (k, p)):p=False:=by
 simp only[iI, Option.some.injEq, Prod.mk.injEq]at h
 exact h.2.symm
theorem ze {H:List aq} (hH:a9 S μ w H) (hS:∀b, S b→b<w.heap.size) {fz:Bool} {E sz:Nat} {α:Type} {enc:α→List V} {d:α} {l:List α} {t ty:TypeId} {s x:D} {us ux:Value} (hs:ak S μ w s us) (hx:ak S μ w x ux) {k:Mk} {p:Prop}
  (hp:Fj P H fz E sz enc d l t s x=some (k, p)) (hob:p):∃u w', (Builtin.append_ #[t, t] ty #[us, ux]).run P w=.ok u w'∧JX S μ w H k u w':=by
 unfold Fj at hp
 split at hp
 case h_2=>rw[dh hp]at hob;exact hob.elim
 rename_i E0 hu
 split at hp
 case h_2=>rw[dh hp]at hob;exact hob.elim
 rename_i z new hz hnew
 split at hp
 case h_2=>rw[dh hp]at hob;exact hob.elim
 rename_i hcond
 simp only[Bool.and_eq_true, Nat.beq_eq, Nat.ble_eq]at hcond
 obtain⟨⟨⟨⟨hk, hzl⟩, hs1⟩, hby1⟩, rfl, rfl⟩:=hcond
 obtain⟨i, v, hi, hv, hzz, hsz, hby⟩:=jk hz
 have hvs:v.cells.size=i.size:=by rw[hsz, ← hzl, hzz];simp
 obtain⟨pa, c, news, rfl, n1, n2, n3, n4, n5, n6⟩:=jl hH hs1 hnew hx
 rw[← hsz]at n2 n6 n5
 have bytes:∀k, k≤137438953472→k*i.bytes≤140737488355328:=by
  intro k hk
  have:k*i.bytes≤137438953472*1024:=Nat.mul_le_mul hk (by omega)
  omega
 split at hp
 ·rename_i id
  split at hp
  case h_2=>rw[dh hp]at hob;exact hob.elim
  rename_i E' sz' β enc0 d0 l0 hbox
  split at hp
  case h_2=>rw[dh hp]at hob;exact hob.elim
  rename_i hcc
  simp only[Bool.and_eq_true, Nat.beq_eq]at hcc
  obtain⟨⟨rfl, rfl⟩, hfx⟩:=hcc
  obtain⟨rfl, hkl, hval⟩:=zd hp
  obtain⟨hlen, heq⟩:=hob
  have hus:=bQ hs
  subst hus
  obtain⟨r0, xs, r1, r2⟩:=eM.of (hH.box id _ hbox)
  simp only[List.length_map]at r1
  have hmax:l0.length+new.length≤maxLen:=by simp only[maxLen];omega
  obtain⟨v', w', hrun, ho, hg, hblk⟩:=eJ (P:=P) (w:=w) t ty E' i v hu hi hv hvs (by rw[hsz];exact r1) n1 n2 n3 n4 hmax (bytes _ hlen)
  have hown:(μ id).ownBlock=aG (μ id):=by
   obtain⟨p', c', hm, _⟩:=b6 (hH.box id _ hbox)
   rw[hm]
   cases p'<;>rfl
  have hSw:∀b, S b→b<w.heap.size→w'.heap[b]?=w.heap[b]?:=fun b hb hl=>hg.block b hl (fun e=>hH.notS id _ b hbox rfl (.inl (by rw[← hown];exact e.symm)) hb)
  have hA:eM S w' E' (aD P E') (l0.map enc0++new) v':=by
   rw[hsz]at ho n2 n5 n6
   refine eM.append r0 (by rw[r1.1];simp) (fun k x j y hx hy=>?_) n5 (fun k x j y hx hy=>?_) (by simpa using ho)
   ·obtain⟨z, hz, hr⟩:=r2 k x j y hx hy
    exact⟨z, hz, hr.stable (fun _ h _=>h) hSw hg.size⟩
   ·obtain⟨z, hz, hr⟩:=n6 k x j y hx hy
    exact⟨z, hz, hr.stable (fun _ h _=>h) hSw hg.size⟩
  rw[heq]at hA
  have hB:aJ S μ w' v' (.arr E' (aD P E') enc d l):=hA.box rfl
  have hv'b:∀b, bE v' b→aG (μ id)=some b∨w.heap.size≤b:=by
   intro b hb
   have hb:=hb.bl (by rcases ho.2 with ⟨rfl, _⟩ | ⟨g, cap, cur, rfl, _⟩<;>rfl)
   have hvv:v'.ownBlock=aG v':=by
    rcases ho.2 with ⟨rfl, _⟩ | ⟨g, cap, cur, rfl, _⟩<;>rfl
   rcases hblk with hblk | hblk
   ·exact .inl (by rw[← hown, ← hblk, hvv];exact hb)
   ·rw[hvv, hb]at hblk
    cases hblk
    exact .inr (Nat.le_refl _)
  refine⟨v', w', hrun, .inr ⟨id, _, _, hkl, hbox, rfl, rfl, by rw[← hown];exact hg, hB, hv'b, ?_⟩⟩
  rcases hval with ⟨e1, e2⟩ | ⟨e1, e2⟩
  ·exact .inl ⟨e1, e2⟩
  ·exact .inr ⟨_, _, _, _, _, _, rfl, e1, e2⟩
 ·obtain⟨rfl, hkl, hval⟩:=zd hp
  obtain⟨hlen, heq⟩:=hob
  cases hs
  obtain⟨v', w', hrun, ho, hg, hblk⟩:=eJ (P:=P) (w:=w) t ty E i v hu hi hv hvs (World.ownsRow_nil w 0 E i.size) n1 n2 n3 n4 (by simp only[maxLen];omega) (bytes _ (by omega))
  have hg':w.grownBy w' none:=hg
  have hSw:∀b, S b→b<w.heap.size→w'.heap[b]?=w.heap[b]?:=fun b hb hl=>hg'.block b hl (by simp)
  have hA:eM S w' E (aD P E) ([]++new) v':=by
   rw[hsz]at ho n2 n5 n6
   refine eM.append (xs:=[]) (fun k x hx=>by simp at hx) (by simp) (fun k x j y hx=>by simp at hx) n5 (fun k x j y hx hy=>?_) (by simpa using ho)
   obtain⟨z, hz, hr⟩:=n6 k x j y hx hy
   exact⟨z, hz, hr.stable (fun _ h _=>h) hSw hg'.size⟩
  rw[List.nil_append, heq]at hA
  have hB:aJ S μ w' v' (.arr E (aD P E) enc d l):=hA.box rfl
  have hvb:∀b, bE v' b→w.heap.size≤b:=by
   intro b hb
   have hb:=hb.bl (by rcases ho.2 with ⟨rfl, _⟩ | ⟨g, cap, cur, rfl, _⟩<;>rfl)
   have hvv:v'.ownBlock=aG v':=by
    rcases ho.2 with ⟨rfl, _⟩ | ⟨g, cap, cur, rfl, _⟩<;>rfl
   rcases hblk with hblk | hblk
   ·rw[hvv, hb]at hblk;cases hblk
   ·rw[hvv, hb]at hblk;cases hblk;exact Nat.le_refl _
  have hbel:Below w.heap.size w w':=⟨hg'.os, hg'.tape, hg'.output, hg'.size, fun k hk=>hg'.block k hk (by simp)⟩
  refine⟨v', w', hrun, .inl ⟨hkl, hbel, ?_⟩⟩
  rcases hval with ⟨e1, e2⟩ | ⟨e1, e2⟩
  ·refine .inr (.inr ⟨S, μ, v', by rw[e1];rfl, fun _ h=>h, fun _ h=>.inl h, fun b hb=>Nat.lt_of_lt_of_le (hS b hb) hg'.size, by rw[e1];exact hB, ?_, fun b hb=>⟨hvb b hb, fun hSb=>by have:=hS b hSb;have:=hvb b hb;omega⟩⟩)
   rw[e2]
   have:=ak.own (S:=S) (μ:=aV μ H.length v') (w:=w') H.length
   rwa [av]at this
  ·refine .inl ⟨e1, ?_⟩
   rw[e2]
   exact .v _ _ (eI (S':=fun b=>S b∨w.heap.size≤b) hB (fun b hb=>Or.inl hb) (fun b hb=>Or.inr (hvb b hb)) (fun b hb=>Nat.lt_of_lt_of_le (hS b hb) hg'.size))
 ·rw[dh hp]at hob;exact hob.elim
theorem zf {H:List aq} (hH:a9 S μ w H) (hS:∀b, S b→b<w.heap.size) {ρ:Operand→D} {ρ':Operand→Value} (hρ:∀x, ak S μ w (ρ x) (ρ' x)) {ov:Ov} {o:Oper} {k:Mk} {p:Prop} (hp:Fk P H ρ ov o.op=some (k, p)) (hob:p)
  {R:Value→World→Prop} (hR:∀u w', JX S μ w H k u w'→R u w'):oY P R ((execOp ρ' o).run P w):=by
 unfold Fk at hp
 split at hp
 ·rename_i f args ats ho
  split at hp
  ·rename_i as r B g first cap hf
   split at hp
   ·rename_i hc
    simp only[Bool.and_eq_true]at hc
    obtain⟨hgo, hr, hBA, hno⟩:=hc
    simp only[Option.some.injEq, Prod.mk.injEq]at hp
    obtain⟨rfl, rfl⟩:=hp
    have hfv:=hf ▸ hρ f
    generalize hfe:ρ' f=uf at hfv
    cases hfv with
    | fn _ _ _ us vs h1 h2 h3 h4 =>
     have hrun:(execOp ρ' o).run P w=.ok (.enter g (us++args.map ρ'++vs)) w:=by
      simp[execOp, ho, resolve, hfe, Deferred.ofValue, invoke, bI hgo]
     rw[hrun]
     have harg:aM S μ w (args.toList.map ρ) (args.map ρ'):=by
      refine⟨by simp, fun j y z hy hz=>?_⟩
      simp only[List.getElem?_map, Array.getElem?_toList, Array.getElem?_map]at hy hz
      cases hj:args[j]? with
      | none=>rw[hj]at hy;cases hy
      | some x=>rw[hj]at hy hz;simp at hy hz;subst hy hz;exact hρ x
     have hall:=aM.app (aM.app ⟨h1, h2⟩ harg) ⟨h3, h4⟩
     obtain⟨as', hc', hus'⟩:∃as', ai P g as' [] false r [B]∧aM S μ w as' (us++args.map ρ'++vs):=by
      cases as with
      | none=>exact⟨_, hob, hall⟩
      | some as=>exact⟨as, hob.2, np hH (fun _ h=>h) hS (.inr hno) hob.1 hall⟩
     refine oY.enter ((hc' S μ w _ hS ⟨fun id B hB=>by simp at hB, fun i j A B b hA=>by simp at hA, fun i A b hA=>by simp at hA⟩ hus').mono ?_)
     rintro e w' ⟨u, μ', S', rfl, q1, q2, q3, q4, q5, q6, q7, q8, q9, q10, q11, _⟩
     have hl:B.live=true:=by cases B<;>first | rfl | cases hBA
     refine⟨u, rfl, hR u w' (.inl ⟨rfl, ⟨q1, q2, q3, q4, fun k hk=>q5 k hk (fun i A hA=>by simp at hA)⟩, .inr (.inr ⟨S', μ', μ' 0, hBA, q6, q7, q8, q10.box 0 B rfl, AH q9 hr (av _ _ _), fun b hb=>⟨?_, q10.notS 0 B b rfl hl hb⟩⟩)⟩)⟩
     rcases q11 0 B b rfl hl hb with hb | ⟨j, A', hA', _⟩
     ·exact hb
     ·simp at hA'
   ·rw[dh hp]at hob;exact hob.elim
  ·cases hp
 ·rename_i args ats ho
  split at hp
  ·rename_i fz E sz α enc d l s x t t' ha ht
   split at hp
   ·rename_i hc
    rw[Nat.beq_eq]at hc
    subst hc
    have ea:args=#[s, x]:=Array.ext' (by simpa using ha)
    have et:ats=#[t, t]:=Array.ext' (by simpa using ht)
    subst ea et
    obtain⟨u, w', h1, h2⟩:=ze (ty:=o.type) hH hS (hρ s) (hρ x) hp hob
    refine oY.of (v:=u) (w':=w') ?_ (hR u w' h2)
    simp only[execOp, ho, resolve, invoke, builtin, List.map_toArray, List.map_cons, List.map_nil, Sem.run_bind, Sem.run_pure, Result.andThen_ok, h1]
   ·rw[dh hp]at hob;exact hob.elim
  ·cases hp
 ·rename_i t len parts ho
  split at hp
  ·rename_i E sz α enc d l
   split at hp
   ·rename_i y q hq
    simp only[Option.some.injEq, Prod.mk.injEq]at hp
    obtain⟨rfl, rfl⟩:=hp
    obtain⟨vs, h1, h2⟩:=AX hH (uparts:=parts.toList.map fun p=>(p.1, ρ' p.2)) (by simp) (fun j x u hx hu=>by
     simp only[List.getElem?_map, Array.getElem?_toList]at hx hu
     cases hj:parts[j]? with
     | none=>rw[hj]at hx;cases hx
     | some q=>rw[hj]at hx hu;simp at hx hu;subst hx hu;exact hρ q.2) hS hq hob ⟨_, rfl⟩
    have he:parts.map (fun (i, x)=>(i, ρ' x))=(parts.toList.map fun p=>(p.1, ρ' p.2)).toArray:=Array.ext' (by simp)
    rw[← he]at h1
    refine oY.of (v:=.slice (some ⟨w.heap.size, 0, none⟩) len len) (w':=w.alloc (.cells vs E)) ?_ (hR _ _ (.inl ⟨rfl, (Below.refl _ _).alloc (Nat.le_refl _) _, .inr (.inl ⟨_, rfl, rfl, h2.arrMu rfl, ?_, fun b hb=>by simp[bE, aG]at hb;exact hb.symm⟩)⟩))
    ·simp only[execOp, ho, Sem.run_bind, h1, Result.andThen_ok, Sem.run_pure]
    ·have:=ak.own (S:=S) (μ:=aV μ H.length (Value.slice (some ⟨w.heap.size, 0, none⟩) len len)) (w:=w.alloc (.cells vs E)) H.length
     rwa [av]at this
   ·rw[dh hp]at hob;exact hob.elim
  ·cases hp
 ·cases hp
theorem AY {H:List aq} (hH:a9 S μ w H) (hS:∀b, S b→b<w.heap.size) {ρ:Operand→D} {ρ':Operand→Value} (hρ:∀x, ak S μ w (ρ x) (ρ' x)) {ov:Ov} {o:Oper} {k:Mk} {p:Prop} (hp:HS P H ρ ov o.op=(k, p)) (hob:p)
  {R:Value→World→Prop} (hR:∀u w', JX S μ w H k u w'→R u w'):oY P R ((execOp ρ' o).run P w):=by
 unfold HS at hp
 split at hp
 ·rename_i T ho
  split at hp
  ·rename_i z hz
   split at hp
   case h_2=>cases hp;exact hob.elim
   rename_i hfr
   simp only[Prod.mk.injEq]at hp
   obtain⟨rfl, rfl⟩:=hp
   obtain⟨v, hv1, hv2⟩:=gA (P:=P) (S:=S) (μ:=μ) (w:=w) hz
   refine oY.of (v:=.pointer (some ⟨w.heap.size, 0, none⟩)) (w':=w.alloc (.cells v.cells T)) ?_ (hR _ _ (.inl ⟨rfl, (Below.refl _ _).alloc (Nat.le_refl _) _, .inr (.inl ⟨_, rfl, rfl, ?_, ?_, fun b hb=>by simp[bE, aG]at hb;exact hb.symm⟩)⟩))
   ·simp[execOp, ho, Instr.alloc, Sem.run_bind, hv1, newVar, newRow, newObj, Sem.run]
   ·refine⟨w.heap.size, v.cells, rfl, heap_alloc_new w _, hv2.1, fun j y x hy hx=>?_⟩
    exact(hv2.2 j y x hy hx).stable (fun _ h _=>h) (fun b hb hl=>Below.heap_alloc w _ b hl) (by simp) (fun id hid=>aF _ _ (fun e=>by rw[e, D.freeL_get hfr hy]at hid;cases hid))
   ·exact .ptr _ 0 0 0 _ (by rw[av];rfl)
  ·cases hp;exact hob.elim
 ·rename_i T x ho
  split at hp
  ·rename_i cs hcs
   split at hp
   case h_2=>cases hp;exact hob.elim
   rename_i hfr
   simp only[Prod.mk.injEq]at hp
   obtain⟨rfl, rfl⟩:=hp
   have hv2:=hD hH (hρ x) hcs
   refine oY.of (v:=.pointer (some ⟨w.heap.size, 0, none⟩)) (w':=w.alloc (.cells (ρ' x).cells T)) ?_ (hR _ _ (.inl ⟨rfl, (Below.refl _ _).alloc (Nat.le_refl _) _, .inr (.inl ⟨_, rfl, rfl, ?_, ?_, fun b hb=>by simp[bE, aG]at hb;exact hb.symm⟩)⟩))
   ·simp[execOp, ho, Instr.box, newVar, newRow, newObj, Sem.run]
   ·refine⟨w.heap.size, (ρ' x).cells, rfl, heap_alloc_new w _, hv2.1, fun j y x hy hx=>?_⟩
    exact(hv2.2 j y x hy hx).stable (fun _ h _=>h) (fun b hb hl=>Below.heap_alloc w _ b hl) (by simp) (fun id hid=>aF _ _ (fun e=>by rw[e, D.freeL_get hfr hy]at hid;cases hid))
   ·exact .ptr _ 0 0 0 _ (by rw[av];rfl)
  ·cases hp;exact hob.elim
 ·rename_i t l c ho
  split at hp
  ·rename_i E kl n kc m hu hl0 hc0
   split at hp
   ·rename_i z hz
    split at hp
    ·rename_i hcond
     simp only[Bool.and_eq_true, Nat.beq_eq, Nat.ble_eq]at hcond
     obtain⟨⟨⟨hk, hzl⟩, hs1⟩, hby1⟩:=hcond
     obtain⟨i, v, hi, hv, hzz, hsz, hby⟩:=jk hz
     have hl:=hρ l
     have hc:=hρ c
     rw[hl0]at hl
     rw[hc0]at hc
     have core:(0≤n∧n≤m∧m≤137438953472)→(execOp ρ' o).run P w=.ok (.value (.slice (some ⟨w.heap.size, 0, none⟩) n.toNat m.toNat)) (w.alloc (.cells (madeCells v.cells (m.toNat*i.size)) E)):=by
      rintro⟨h0, hnm, hm⟩
      have hbm:(i.bytes:Int)*m≤281474976710656:=by
       have h9:(i.bytes:Int)≤1024:=by omega
       have:(i.bytes:Int)*m≤1024*m:=Int.mul_le_mul_of_nonneg_right h9 (by omega)
       omega
      have hrun:=run_make (P:=P) w t E i v hu hi hv kl kc n m h0 hnm hbm (by omega)
      rw[← bM hl, ← bM hc]at hrun
      simp only[execOp, ho, Sem.run_bind, hrun, Result.andThen_ok, Sem.run_pure]
     split at hp
     ·rename_i E' sz' α enc' d' l'
      split at hp
      ·rename_i hcc
       simp only[Bool.and_eq_true, Nat.beq_eq]at hcc
       obtain⟨rfl, rfl⟩:=hcc
       simp only[Prod.mk.injEq]at hp
       obtain⟨rfl, rfl⟩:=hp
       obtain⟨hnm, hlen, hrows⟩:=hob
       refine oY.of (core hnm) (hR _ _ (.inl ⟨rfl, (Below.refl _ _).alloc (Nat.le_refl _) _, .inr (.inl ⟨_, rfl, rfl, zc hz hi hv hzz hsz hzl hs1 hnm.1 hnm.2.1 hnm.2.2 hlen hrows, ?_, fun b hb=>by simp[bE, aG]at hb;exact hb.symm⟩)⟩))
       have:=ak.own (S:=S) (μ:=aV μ H.length (Value.slice (some ⟨w.heap.size, 0, none⟩) n.toNat m.toNat)) (w:=w.alloc (.cells (madeCells v.cells (m.toNat*i.size)) E)) H.length
       rwa [av]at this
      ·cases hp;exact hob.elim
     ·rename_i E' sz' α enc' d' l'
      split at hp
      ·rename_i hcc
       simp only[Bool.and_eq_true, Nat.beq_eq]at hcc
       obtain⟨rfl, rfl⟩:=hcc
       simp only[Prod.mk.injEq]at hp
       obtain⟨rfl, rfl⟩:=hp
       obtain⟨hnm, hlen, hrows⟩:=hob
       have hB:aJ S μ (w.alloc (.cells (madeCells v.cells (m.toNat*i.size)) E)) (.slice (some ⟨w.heap.size, 0, none⟩) n.toNat m.toNat) (.arr E (aD P E) enc' d' l'):=zc hz hi hv hzz hsz hzl hs1 hnm.1 hnm.2.1 hnm.2.2 hlen hrows
       refine oY.of (core hnm) (hR _ _ (.inl ⟨rfl, (Below.refl _ _).alloc (Nat.le_refl _) _, .inl ⟨rfl, .v _ _ (eI (S':=fun b=>S b∨w.heap.size≤b) hB (fun b hb=>Or.inl hb) (fun b hb=>Or.inr (by simp[bE, aG]at hb;omega)) (fun b hb=>by have:=hS b hb;simp;omega))⟩⟩))
      ·cases hp;exact hob.elim
     ·cases hp;exact hob.elim
    ·cases hp;exact hob.elim
   ·cases hp;exact hob.elim
  ·cases hp;exact hob.elim
 ·rename_i t ho
  split at hp
  ·rename_i t' ag α enc d l
   split at hp
   ·simp only[Prod.mk.injEq]at hp
    obtain⟨rfl, rfl⟩:=hp
    refine oY.of (v:=.map (some w.heap.size)) (w':=w.alloc (.map #[] 0)) ?_ (hR _ _ (.inl ⟨rfl, (Below.refl _ _).alloc (Nat.le_refl _) _, .inr (.inl ⟨_, rfl, rfl, ?_, ?_, fun b hb=>by simp[bE, aG]at hb;exact hb.symm⟩)⟩))
    ·simp[execOp, ho, Instr.makeMap, newObj, Sem.run]
    ·exact⟨w.heap.size, #[], 0, rfl, heap_alloc_new w _, rfl, fun i k x hx=>by simp at hx⟩
    ·have:=ak.own (S:=S) (μ:=aV μ H.length (.map (some w.heap.size))) (w:=w.alloc (.map #[] 0)) H.length
     rwa [av]at this
   ·cases hp;exact hob.elim
  ·cases hp;exact hob.elim
 ·rename_i h1 h2 h3 h4
  split at hp
  ·rename_i q hq
   obtain⟨k', p'⟩:=q
   simp only[Prod.mk.injEq]at hp
   obtain⟨rfl, rfl⟩:=hp
   exact zf hH hS hρ hq hob hR
  generalize hq:M1 P H ρ ov o.op=q at hp
  obtain⟨d, q⟩:=q
  simp only[Prod.mk.injEq]at hp
  obtain⟨rfl, rfl⟩:=hp
  refine DW hH hS hρ hq hob ?_ (fun u w' hb hd=>hR u w' (.inl ⟨rfl, hb, .inl ⟨rfl, hd⟩⟩))
  unfold JS
  split
  ·rename_i T ho;exact(h1 T ho).elim
  ·rfl
end
def JY:List Bool→List Bool→List Bool
 | a::as, b::bs=>(a||b)::JY as bs
 | [], bs=>bs
 | as, []=>as
def wn:Nat→List Bool
 | 0=>[true]
 | n+1=>false::wn n
def hT (ancs:List (List Bool)):List Edge→List Bool
 | []=>[]
 | e::r=>if Region.binds .any e then JY (JY (wn e.on) (ancs.getD e.on [])) (hT ancs r)else hT ancs r
theorem xI:∀(a b:List Bool) (j:Nat), (JY a b).getD j false=(a.getD j false||b.getD j false)
 | a::as, b::bs, 0=>rfl
 | a::as, b::bs, j+1=>by simpa[JY]using xI as bs j
 | [], bs, j=>by simp[JY]
 | a::as, [], j=>by simp[JY]
theorem wo:∀(n j:Nat), (wn n).getD j false=true→j=n
 | 0, 0, _=>rfl
 | 0, j+1, h=>by simp[wn]at h
 | n+1, 0, h=>by simp[wn]at h
 | n+1, j+1, h=>by have:=wo n j (by simpa[wn]using h);omega
theorem qy {ancs:List (List Bool)} {j:Nat}:∀{es:List Edge}, (hT ancs es).getD j false=true→∃e∈es, Region.binds .any e=true∧(j=e.on∨(ancs.getD e.on []).getD j false=true)
 | [], h=>by simp[hT]at h
 | e::r, h=>by
  unfold hT at h
  split at h
  ·rename_i hb
   rw[xI, xI]at h
   simp only[Bool.or_eq_true]at h
   rcases h with (h | h) | h
   ·exact⟨e, List.mem_cons_self .., hb, .inl (wo _ _ h)⟩
   ·exact⟨e, List.mem_cons_self .., hb, .inr h⟩
   ·obtain⟨e', h1, h2⟩:=qy h
    exact⟨e', List.mem_cons_of_mem _ h1, h2⟩
  ·obtain⟨e', h1, h2⟩:=qy h
   exact⟨e', List.mem_cons_of_mem _ h1, h2⟩
def lF:List Oper→List Mk→List Bool→List (Nat×D)
 | o::os, k::ks, b::bs=>match b, o.dst with
  | true, some t=>(t, k.d)::lF os ks bs
  | _, _=>lF os ks bs
 | _, _, _=>[]
def jD (id:Nat):List Mk→List Bool→Bool
 | k::ks, true::bs=>(match k.kil with | some i=>Nat.beq i id | none=>false)||jD id ks bs
 | _::ks, false::bs=>jD id ks bs
 | _, _=>false
def jS (id:Nat) (bs:List Bool):Nat→List Mk→Option aq
 | _, []=>none
 | p, k::ks=>match k.fil, bs.getD p false with
  | some i, true=>(match Nat.beq i id with | true=>some k.b | false=>jS id bs (p+1) ks)
  | _, _=>jS id bs (p+1) ks
def jT (id:Nat) (ks:List Mk) (bs:List Bool):Option aq:=jS id bs 0 ks
def LN (aks:List Mk) (abs:List Bool) (id:Nat) (k:Mk):aq:=match jD id aks abs, k.fil, jT id aks abs with
 | false, none, some B=>B
 | false, none, none=>k.b
 | _, _, _=>.dead
def iJ (aks:List Mk) (abs:List Bool):Nat→List Mk→List Bool→List aq
 | _, [], _=>[]
 | id, _::ks, []=>.dead::iJ aks abs (id+1) ks []
 | id, k::ks, true::bs=>LN aks abs id k::iJ aks abs (id+1) ks bs
 | id, _::ks, false::bs=>.dead::iJ aks abs (id+1) ks bs
def dg (n0:Nat) (ks:List Mk) (bs:List Bool):List aq:=iJ ks bs n0 ks bs
theorem f9 {id:Nat} {bs:List Bool} {B:aq}:∀{ks:List Mk} {p0:Nat}, jS id bs p0 ks=some B→∃(p:Nat) (k:Mk), ks[p]?=some k∧bs.getD (p0+p) false=true∧k.fil=some id∧B=k.b
 | [], p0, h=>by simp[jS]at h
 | k::ks, p0, h=>by
  unfold jS at h
  have go:jS id bs (p0+1) ks=some B→∃(p:Nat) (k':Mk), (k::ks)[p]?=some k'∧bs.getD (p0+p) false=true∧k'.fil=some id∧B=k'.b:=fun h=>by
   obtain⟨p, k', h1, h2, h3⟩:=f9 h
   exact⟨p+1, k', by simpa using h1, by rw[show p0+(p+1)=p0+1+p by omega];exact h2, h3⟩
  split at h
  ·rename_i i hf hb
   split at h
   ·rename_i he
    rw[Nat.beq_eq]at he
    cases h
    exact⟨0, k, rfl, hb, by rw[hf, he], rfl⟩
   ·exact go h
  ·exact go h
theorem kG {id:Nat} {bs:List Bool}:∀{ks:List Mk} {p0:Nat}, jS id bs p0 ks=none→∀(p:Nat) (k:Mk), ks[p]?=some k→bs.getD (p0+p) false=true→k.fil=some id→False
 | [], p0, h, p, k, h1, _, _=>by simp at h1
 | k'::ks, p0, h, p, k, h1, h2, h3=>by
  unfold jS at h
  cases p with
  | zero =>
   simp at h1;subst h1
   rw[h3, show bs.getD p0 false=true from h2]at h
   simp at h
  | succ p =>
   have h4:jS id bs (p0+1) ks=none:=by
    split at h
    ·split at h
     ·cases h
     ·exact h
    ·exact h
   exact kG h4 p k (by simpa using h1) (by rw[show p0+1+p=p0+(p+1) by omega];exact h2) h3
theorem sL {id:Nat} {bs bs':List Bool}:∀{ks:List Mk} {p0:Nat}, (∀(p:Nat) (k:Mk), ks[p]?=some k→k.fil=some id→bs.getD (p0+p) false=bs'.getD (p0+p) false)→jS id bs p0 ks=jS id bs' p0 ks
 | [], p0, h=>rfl
 | k::ks, p0, h=>by
  have ih:=sL (id:=id) (bs:=bs) (bs':=bs') (ks:=ks) (p0:=p0+1) (fun p k' h1 h2=>by
   have:=h (p+1) k' (by simpa using h1) h2
   rwa [show p0+(p+1)=p0+1+p by omega]at this)
  unfold jS
  cases hf:k.fil with
  | none=>simp only;exact ih
  | some i =>
   by_cases e:i=id
   ·have:=h 0 k rfl (by rw[hf, e])
    rw[Nat.add_zero]at this
    rw[this]
    subst e
    cases bs'.getD p0 false
    ·exact ih
    ·simp
   ·have e2:Nat.beq i id=false:=by
     cases hb:Nat.beq i id
     ·rfl
     ·rw[Nat.beq_eq]at hb;exact(e hb).elim
    cases bs.getD p0 false<;>cases bs'.getD p0 false<;>simp only[e2]<;>exact ih
theorem qz {id:Nat}:∀{ks:List Mk} {bs:List Bool}, jD id ks bs=true→∃(p:Nat) (k:Mk), ks[p]?=some k∧bs.getD p false=true∧k.kil=some id
 | [], bs, h=>by simp[jD]at h
 | k::ks, [], h=>by simp[jD]at h
 | k::ks, true::bs, h=>by
  unfold jD at h
  rw[Bool.or_eq_true]at h
  rcases h with h | h
  ·split at h
   ·rename_i i hk;rw[Nat.beq_eq]at h;exact⟨0, k, rfl, rfl, by rw[hk, h]⟩
   ·cases h
  ·obtain⟨p, k', h1, h2, h3⟩:=qz h
   exact⟨p+1, k', h1, h2, h3⟩
 | k::ks, false::bs, h=>by
  unfold jD at h
  obtain⟨p, k', h1, h2, h3⟩:=qz h
  exact⟨p+1, k', h1, h2, h3⟩
theorem tD {id:Nat}:∀{ks:List Mk} {bs:List Bool} {p:Nat} {k:Mk}, ks[p]?=some k→bs.getD p false=true→k.kil=some id→jD id ks bs=true
 | [], bs, p, k, h, _, _=>by simp at h
 | k'::ks, [], p, k, _, h, _=>by simp at h
 | k'::ks, b::bs, 0, k, h1, h2, h3=>by
  simp at h1 h2
  subst h1 h2
  unfold jD
  rw[h3]
  simp
 | k'::ks, b::bs, p+1, k, h1, h2, h3=>by
  have:=tD (ks:=ks) (bs:=bs) (p:=p) (by simpa using h1) (by simpa using h2) h3
  cases b
  ·unfold jD;exact this
  ·unfold jD;rw[this, Bool.or_true]
theorem ga {t:Nat} {d:D}:∀{os:List Oper} {ks:List Mk} {bs:List Bool}, (t, d)∈lF os ks bs→∃(j:Nat) (o:Oper) (k:Mk), os[j]?=some o∧ks[j]?=some k∧bs.getD j false=true∧o.dst=some t∧d=k.d
 | o::os, k::ks, b::bs, h=>by
  unfold lF at h
  split at h
  ·rename_i t' hd
   rcases List.mem_cons.1 h with h | h
   ·cases h;exact⟨0, o, k, rfl, rfl, rfl, hd, rfl⟩
   ·obtain⟨j, o', k', h1⟩:=ga h;exact⟨j+1, o', k', h1⟩
  ·obtain⟨j, o', k', h1⟩:=ga h;exact⟨j+1, o', k', h1⟩
 | [], _, _, h=>by simp[lF]at h
 | _::_, [], _, h=>by simp[lF]at h
 | _::_, _::_, [], h=>by simp[lF]at h
theorem nw:∀{os:List Oper} {ks:List Mk} {bs:List Bool} (j:Nat) {o:Oper} {k:Mk} {t:Nat}, os[j]?=some o→ks[j]?=some k→bs.getD j false=true→o.dst=some t→(t, k.d)∈lF os ks bs
 | o::os, k::ks, b::bs, 0, o', k', t, h1, h2, h3, h4=>by
  simp at h1 h2 h3;subst h1 h2 h3
  unfold lF
  rw[h4]
  exact List.mem_cons_self ..
 | o::os, k::ks, b::bs, j+1, o', k', t, h1, h2, h3, h4=>by
  have:=nw (os:=os) (ks:=ks) (bs:=bs) j (by simpa using h1) (by simpa using h2) (by simpa using h3) h4
  unfold lF
  split
  ·exact List.mem_cons_of_mem _ this
  ·exact this
 | [], _, _, _, _, _, _, h1, _, _, _=>by simp at h1
 | _::_, [], _, _, _, _, _, _, h2, _, _=>by simp at h2
 | _::_, _::_, [], _, _, _, _, _, _, h3, _=>by simp at h3
theorem hU {aks:List Mk} {abs:List Bool}:∀(n:Nat) (ks:List Mk) (bs:List Bool), (iJ aks abs n ks bs).length=ks.length
 | _, [], _=>rfl
 | n, _::ks, []=>by simp[iJ, hU (n+1) ks]
 | n, _::ks, true::bs=>by simp[iJ, hU (n+1) ks]
 | n, _::ks, false::bs=>by simp[iJ, hU (n+1) ks]
theorem di (n:Nat) (ks:List Mk) (bs:List Bool):(dg n ks bs).length=ks.length:=hU _ _ _
theorem nx {aks:List Mk} {abs:List Bool}:∀(n:Nat) (ks:List Mk) (bs:List Bool) (j:Nat) (k:Mk), ks[j]?=some k→(iJ aks abs n ks bs)[j]?=some (if bs.getD j false=true then LN aks abs (n+j) k else .dead)
 | n, _::ks, [], 0, k, h=>by simp[iJ]
 | n, _::ks, [], j+1, k, h=>by simpa[iJ]using nx (n+1) ks [] j k (by simpa using h)
 | n, k'::ks, true::bs, 0, k, h=>by
  simp at h;subst h
  simp[iJ]
 | n, _::ks, true::bs, j+1, k, h=>by
  have:=nx (aks:=aks) (abs:=abs) (n+1) ks bs j k (by simpa using h)
  rw[show n+1+j=n+(j+1) by omega]at this
  simpa[iJ]using this
 | n, _::ks, false::bs, 0, k, h=>by simp[iJ]
 | n, _::ks, false::bs, j+1, k, h=>by
  have:=nx (aks:=aks) (abs:=abs) (n+1) ks bs j k (by simpa using h)
  rw[show n+1+j=n+(j+1) by omega]at this
  simpa[iJ]using this
 | _, [], _, _, _, h=>by simp at h
theorem ny (n:Nat) (ks:List Mk) (bs:List Bool) (j:Nat) (k:Mk) (h:ks[j]?=some k):(dg n ks bs)[j]?=some (if bs.getD j false=true then LN ks bs (n+j) k else .dead):=nx n ks bs j k h
theorem kH {n:Nat} {ks:List Mk} {bs:List Bool} {j:Nat} {k:Mk} {B:aq} (h:ks[j]?=some k) (hB:(dg n ks bs)[j]?=some B) :
  B=.dead∨(bs.getD j false=true∧jD (n+j) ks bs=false∧k.fil=none∧((jT (n+j) ks bs=none∧B=k.b)∨jT (n+j) ks bs=some B)):=by
 rw[ny _ _ _ _ _ h]at hB
 split at hB
 ·rename_i hb
  simp only[Option.some.injEq]at hB
  unfold LN at hB
  split at hB
  ·rename_i B0 h1 h2 h3;exact .inr ⟨hb, h1, h2, .inr (by rw[h3, hB])⟩
  ·rename_i h1 h2 h3;exact .inr ⟨hb, h1, h2, .inl ⟨h3, hB.symm⟩⟩
  ·exact .inl hB.symm
 ·cases hB;exact .inl rfl
theorem uJ {n:Nat} {ks:List Mk} {bs:List Bool} {j:Nat} {k:Mk} {B:aq} (h:ks[j]?=some k) (h1:bs.getD j false=true) (h2:jD (n+j) ks bs=false) (h3:k.fil=none) (h4:(jT (n+j) ks bs=none∧B=k.b)∨jT (n+j) ks bs=some B) :
  (dg n ks bs)[j]?=some B:=by
 rw[ny _ _ _ _ _ h, if_pos h1]
 unfold LN
 rw[h2, h3]
 rcases h4 with ⟨h5, rfl⟩ | h5
 ·rw[h5]
 ·rw[h5]
def wq (os:List Oper):List (Nat×D)→List (Nat×D)
 | []=>[]
 | (t, d)::r=>if os.any (fun o=>match o.dst with | some s=>Nat.beq s t | none=>false)then wq os r else (t, d)::wq os r
theorem jU {os:List Oper} {t:Nat} {d:D}:∀{env:List (Nat×D)}, (t, d)∈wq os env→(t, d)∈env∧∀o∈os, o.dst≠some t
 | (s, e)::r, h=>by
  unfold wq at h
  split at h
  ·obtain⟨h1, h2⟩:=jU h;exact⟨List.mem_cons_of_mem _ h1, h2⟩
  ·rename_i hn
   rcases List.mem_cons.1 h with h | h
   ·cases h
    refine⟨List.mem_cons_self .., fun o ho he=>hn ?_⟩
    rw[List.any_eq_true]
    exact⟨o, ho, by rw[he];simp⟩
   ·obtain⟨h1, h2⟩:=jU h;exact⟨List.mem_cons_of_mem _ h1, h2⟩
def dK (os:List Oper) (st:St) (ks:List Mk) (anc:List Bool):St:=⟨wq os st.env++lF os ks anc, st.heap++dg st.heap.length ks anc⟩
def Hx (P:Program) (ops os:List Oper) (st:St) (ovs:List (Nat×Ov)):Nat→List Oper→List (List Bool)→List Mk→(List (List Bool)→List Mk→Prop)→Prop
 | _, [], ancs, ks, K=>K ancs ks
 | i, o::r, ancs, ks, K =>
  match f8 ops (dK os st ks (hT ancs o.after.toList)) o with
  | some true=>match uI P (dK os st ks (hT ancs o.after.toList)).heap (eB (dK os st ks (hT ancs o.after.toList)).env) (oL ovs i) o.op with
   | (k, p)=>p∧nD k.d (fun d=>nB k.b (fun b=>nK k.kl (fun kl=>Hx P ops os st ovs (i+1) r (ancs++[hT ancs o.after.toList]) (ks++[.make d b kl]) K)))
  | some false=>Hx P ops os st ovs (i+1) r (ancs++[hT ancs o.after.toList]) (ks++[nu (.tup []) .dead]) K
  | none=>False
def jV (st:St) (n0:Nat):Nat→List (List Bool)→List Mk→List (List Bool)→List Mk→Bool
 | i, a::as, k::ks, ancs, mks=>(match k.b, k.kl with
   | .dead, none=>true
   | _, _=>bN (n0+i) st.env&&bx (n0+i) st.heap&&freeM i (n0+i) 0 ancs mks)&&jV st n0 (i+1) as ks ancs mks
 | _, _, _, _, _=>true
where freeM (i id:Nat):Nat→List (List Bool)→List Mk→Bool
 | j, a::as, k::ks=>(Nat.beq j i||a.getD i false||(D.free id k.d&&aq.free id k.b))&&freeM i id (j+1) as ks
 | _, _, _=>true
def wt:List Oper→Bool
 | []=>true
 | o::r=>(match o.dst with | some t=>r.all (fun o'=>match o'.dst with | some s=>!(Nat.beq s t) | none=>true) | none=>true)&&wt r
def nz (nt:Nat):List Oper→Bool
 | []=>true
 | o::r=>(match o.dst with | some t=>Nat.blt t nt&&!(kF o.op) | none=>kF o.op)&&nz nt r
def uK:sG:={ K:=fun _=>.grow, F:=fun _ _ _ _=>True, ins:=fun _=>[] }
def JZ (nt:Nat) (ops:List Oper) (m:Nat):Bool :=
 Jc ops.toArray uK ⟨Array.replicate nt undef, []⟩&&BV ops.toArray m&&nz nt (ops.take m)&&wt (ops.take m)&&ops.all (fun o=>!cI o)
def kI (n0:Nat) (ancs:List (List Bool)) (ks:List Mk):Bool:=(List.range ks.length).all fun p=>match (ks.getD p (nu .junk .dead)).kl with
 | none=>true
 | some id=>Nat.ble n0 id&&(ancs.getD p []).getD (id-n0) false&&((List.range ks.length).all fun i=>Nat.beq i p||!((ancs.getD i []).getD (id-n0) false)||(ancs.getD i []).getD p false||(ancs.getD p []).getD i false)&&(List.range ks.length).all fun i=>Nat.beq i p||(match (ks.getD i (nu .junk .dead)).kl with | some j=>!(Nat.beq j id) | none=>true)
theorem iK {n0:Nat} {ancs:List (List Bool)} {ks:List Mk} (h:kI n0 ancs ks=true) {p:Nat} {k:Mk} (hp:ks[p]?=some k) {id:Nat} (hk:k.kl=some id) :
  n0≤id∧(ancs.getD p []).getD (id-n0) false=true∧∀i, i<ks.length→i≠p→(ancs.getD i []).getD (id-n0) false=true→(ancs.getD i []).getD p false=true∨(ancs.getD p []).getD i false=true:=by
 unfold kI at h
 rw[List.all_eq_true]at h
 have hpl:p<ks.length:=(List.getElem?_eq_some_iff.1 hp).1
 have h1:=h p (List.mem_range.2 hpl)
 have e:ks.getD p (nu .junk .dead)=k:=by rw[List.getD, hp];rfl
 rw[e, hk]at h1
 simp only[Bool.and_eq_true]at h1
 have h1:=h1.1
 simp only[Nat.ble_eq, List.all_eq_true, List.mem_range, Bool.or_eq_true, Nat.beq_eq, Bool.not_eq_true']at h1
 refine⟨h1.1.1, h1.1.2, fun i hi hne ha=>?_⟩
 rcases h1.2 i hi with ((h2 | h2) | h2) | h2
 ·exact absurd h2 hne
 ·rw[ha]at h2;cases h2
 ·exact .inl h2
 ·exact .inr h2
theorem uL {n0:Nat} {ancs:List (List Bool)} {ks:List Mk} (h:kI n0 ancs ks=true) {p q:Nat} {k k':Mk} (hp:ks[p]?=some k) (hq:ks[q]?=some k') {id:Nat} (hk:k.kl=some id) (hk':k'.kl=some id):p=q:=by
 unfold kI at h
 rw[List.all_eq_true]at h
 have hpl:p<ks.length:=(List.getElem?_eq_some_iff.1 hp).1
 have hql:q<ks.length:=(List.getElem?_eq_some_iff.1 hq).1
 have h1:=h p (List.mem_range.2 hpl)
 have e:ks.getD p (nu .junk .dead)=k:=by rw[List.getD, hp];rfl
 rw[e, hk]at h1
 simp only[Bool.and_eq_true]at h1
 have h2:=h1.2
 rw[List.all_eq_true]at h2
 have h3:=h2 q (List.mem_range.2 hql)
 have e2:ks.getD q (nu .junk .dead)=k':=by rw[List.getD, hq];rfl
 rw[e2, hk']at h3
 simp only[Bool.or_eq_true, Nat.beq_eq, Bool.not_eq_true']at h3
 rcases h3 with h3 | h3
 ·exact h3.symm
 ·have:Nat.beq id id=true:=by rw[Nat.beq_eq]
  rw[this]at h3;cases h3
def J0 (P:Program) (nt:Nat) (ops:List Oper) (ovs:List (Nat×Ov)) (m:Nat) (st:St) (k:St→Prop):Prop :=
 Hx P ops (ops.take m) st ovs 0 (ops.take m) [] [] fun ancs ks =>
  match JZ nt ops m&&(jV st st.heap.length 0 ancs ks ancs ks&&kI st.heap.length ancs ks)&&P.follows .mixedOrders with
  | true=>xH P nt ops ovs m (ops.drop m) ⟨wq (ops.take m) st.env++lF (ops.take m) ks (List.replicate m true), st.heap++dg st.heap.length ks (List.replicate m true)⟩ k
  | false=>False
theorem rY {P:Program} {nt:Nat} {ops:List Oper} {ovs:List (Nat×Ov)} {k k':St→Prop} (hk:∀st, k st→k' st):∀(r:List Oper) (i:Nat) (st:St), xH P nt ops ovs i r st k→xH P nt ops ovs i r st k'
 | [], i, st, h=>hk _ h
 | o::r, i, st, h=>by
  unfold xH at h ⊢
  split at h
  ·rename_i hg;exact⟨h.1, rY hk r (i+1) _ h.2⟩
  ·rename_i hg;exact⟨h.1, rY hk r (i+1) _ h.2⟩
  ·exact h.elim
theorem qA {P:Program} {ops os:List Oper} {st:St} {ovs:List (Nat×Ov)} {K K':List (List Bool)→List Mk→Prop} (hk:∀a b, K a b→K' a b):∀(r:List Oper) (i:Nat) (ancs:List (List Bool)) (ks:List Mk), Hx P ops os st ovs i r ancs ks K→Hx P ops os st ovs i r ancs ks K'
 | [], i, ancs, ks, h=>hk _ _ h
 | o::r, i, ancs, ks, h=>by
  unfold Hx at h ⊢
  split at h
  ·rename_i hg
   refine⟨h.1, ?_⟩
   have h2:=h.2
   rw[Cq, Fh, Jl]at h2 ⊢
   exact qA hk r (i+1) _ _ h2
  ·exact qA hk r (i+1) _ _ h
  ·exact h.elim
theorem Fo {P:Program} {nt:Nat} {ops:List Oper} {ovs:List (Nat×Ov)} {m:Nat} {st:St} {k k':St→Prop} (h:J0 P nt ops ovs m st k) (hk:∀st, k st→k' st):J0 P nt ops ovs m st k':=by
 unfold J0 at h ⊢
 refine qA (fun a b hq=>?_) _ _ _ _ h
 split at hq
 ·exact rY hk _ _ _ hq
 ·exact hq.elim
section
variable {C:lC}
theorem AZ {P:Program} {ops os:List Oper} {st:St} {ovs:List (Nat×Ov)} {K:List (List Bool)→List Mk→Prop}:∀(r:List Oper) (i:Nat) (ancs:List (List Bool)) (ks:List Mk), ancs.length=i→ks.length=i→Hx P ops os st ovs i r ancs ks K →
  ∃(ancs':List (List Bool)) (ks':List Mk), ancs'.length=i+r.length∧ks'.length=i+r.length∧(∃x, ancs'=ancs++x)∧(∃y, ks'=ks++y)∧K ancs' ks' ∧
   ∀(j:Nat) (o:Oper), r[j]?=some o→(ancs'.getD (i+j) [])=hT (ancs'.take (i+j)) o.after.toList ∧
    ((f8 ops (dK os st (ks'.take (i+j)) (ancs'.getD (i+j) [])) o=some true∧∃k p, uI P (dK os st (ks'.take (i+j)) (ancs'.getD (i+j) [])).heap (eB (dK os st (ks'.take (i+j)) (ancs'.getD (i+j) [])).env) (oL ovs (i+j)) o.op=(k, p)∧p∧ks'[i+j]?=some k) ∨
     (f8 ops (dK os st (ks'.take (i+j)) (ancs'.getD (i+j) [])) o=some false∧ks'[i+j]?=some (nu (.tup []) .dead)))
 | [], i, ancs, ks, h1, h2, h=>⟨ancs, ks, by simp[h1], by simp[h2], ⟨[], by simp⟩, ⟨[], by simp⟩, h, fun j o ho=>by simp at ho⟩
 | o::r, i, ancs, ks, h1, h2, h=>by
  unfold Hx at h
  have fin:∀(k:Mk), Hx P ops os st ovs (i+1) r (ancs++[hT ancs o.after.toList]) (ks++[k]) K →
    ((f8 ops (dK os st ks (hT ancs o.after.toList)) o=some true∧∃p, uI P (dK os st ks (hT ancs o.after.toList)).heap (eB (dK os st ks (hT ancs o.after.toList)).env) (oL ovs i) o.op=(k, p)∧p)∨(f8 ops (dK os st ks (hT ancs o.after.toList)) o=some false∧k=nu (.tup []) .dead)) →
    ∃(ancs':List (List Bool)) (ks':List Mk), ancs'.length=i+(o::r).length∧ks'.length=i+(o::r).length∧(∃x, ancs'=ancs++x)∧(∃y, ks'=ks++y)∧K ancs' ks' ∧
     ∀(j:Nat) (o':Oper), (o::r)[j]?=some o'→(ancs'.getD (i+j) [])=hT (ancs'.take (i+j)) o'.after.toList ∧
      ((f8 ops (dK os st (ks'.take (i+j)) (ancs'.getD (i+j) [])) o'=some true∧∃k p, uI P (dK os st (ks'.take (i+j)) (ancs'.getD (i+j) [])).heap (eB (dK os st (ks'.take (i+j)) (ancs'.getD (i+j) [])).env) (oL ovs (i+j)) o'.op=(k, p)∧p∧ks'[i+j]?=some k) ∨
       (f8 ops (dK os st (ks'.take (i+j)) (ancs'.getD (i+j) [])) o'=some false∧ks'[i+j]?=some (nu (.tup []) .dead))):=by
   intro k hk hc
   obtain⟨ancs', ks', q1, q2, ⟨x, q3⟩, ⟨y, q4⟩, q5, q6⟩:=AZ r (i+1) _ _ (by simp[h1]) (by simp[h2]) hk
   refine⟨ancs', ks', by rw[q1, List.length_cons];omega, by rw[q2, List.length_cons];omega, ⟨_, by rw[q3, List.append_assoc]⟩, ⟨_, by rw[q4, List.append_assoc]⟩, q5, fun j o' ho'=>?_⟩
   cases j with
   | zero =>
    simp at ho'
    subst ho'
    have ea:ancs'.getD (i+0) []=hT ancs o.after.toList:=by
     rw[q3];unfold List.getD
     rw[List.append_assoc, List.getElem?_append_right (by omega)]
     simp[h1]
    have et:ancs'.take (i+0)=ancs:=by rw[q3, List.append_assoc, Nat.add_zero, ← h1, List.take_left]
    have ek:ks'.take (i+0)=ks:=by rw[q4, List.append_assoc, Nat.add_zero, ← h2, List.take_left]
    have eg:ks'[i+0]?=some k:=by
     rw[q4, List.append_assoc, List.getElem?_append_right (by omega)]
     simp[h2]
    rw[ea, et, ek, eg]
    refine⟨rfl, ?_⟩
    rcases hc with ⟨c1, p, c2, c3⟩ | ⟨c1, rfl⟩
    ·exact .inl ⟨c1, k, p, c2, c3, rfl⟩
    ·exact .inr ⟨c1, rfl⟩
   | succ j =>
    have:=q6 j o' (by simpa using ho')
    rwa [show i+1+j=i+(j+1)from by omega]at this
  split at h
  ·rename_i hg
   generalize hq:uI P (dK os st ks (hT ancs o.after.toList)).heap (eB (dK os st ks (hT ancs o.after.toList)).env) (oL ovs i) o.op=q at h
   obtain⟨k, p⟩:=q
   obtain⟨hp, hk⟩:=h
   rw[Cq, Fh, Jl]at hk
   exact fin k hk (.inl ⟨hg, p, hq, hp⟩)
  ·rename_i hg
   exact fin _ h (.inr ⟨hg, rfl⟩)
  ·exact h.elim
theorem zg {α:Type _} {l:List α} {i:Nat} {x:α} (h:l[i]?=some x):l.set i x=l:=by
 apply List.ext_getElem?
 intro j
 by_cases hj:i=j
 ·subst hj
  rw[List.getElem?_set_self (List.getElem?_eq_some_iff.1 h).1, h]
 ·rw[List.getElem?_set_ne hj]
theorem zh {id:Nat}:∀{env:List (Nat×D)}, (∀t d, (t, d)∈env→D.free id d=true)→bN id env=true
 | [], _=>rfl
 | (t, d)::r, h=>by
  simp only[bN, Bool.and_eq_true]
  exact⟨h t d (List.mem_cons_self ..), zh (fun t d hm=>h t d (List.mem_cons_of_mem _ hm))⟩
theorem qB {id:Nat}:∀{H:List aq}, (∀(j:Nat) (B:aq), H[j]?=some B→aq.free id B=true)→bx id H=true
 | [], _=>rfl
 | B::r, h=>by
  simp only[bx, Bool.and_eq_true]
  exact⟨h 0 B rfl, qB (fun j B hB=>h (j+1) B (by simpa using hB))⟩
theorem jW {t s:Nat} {d:D}:∀{env:List (Nat×D)}, (s, d)∈env→s≠t→(s, d)∈sK env t
 | (q, e)::r, h, hn=>by
  unfold sK
  rcases List.mem_cons.1 h with h | h
  ·cases h
   split
   ·rename_i hq;rw[Nat.beq_eq]at hq;exact(hn hq).elim
   ·exact List.mem_cons_self ..
  ·split
   ·exact jW h hn
   ·exact List.mem_cons_of_mem _ (jW h hn)
theorem wu {i id:Nat}:∀{as:List (List Bool)} {ks:List Mk} {j0:Nat}, jV.freeM i id j0 as ks=true→∀(j:Nat) (a:List Bool) (k:Mk), as[j]?=some a→ks[j]?=some k→j0+j=i∨a.getD i false=true∨(D.free id k.d=true∧aq.free id k.b=true)
 | a::as, k::ks, j0, h, 0, a', k', h1, h2=>by
  simp at h1 h2;subst h1 h2
  unfold jV.freeM at h
  simp only[Bool.and_eq_true, Bool.or_eq_true, Nat.beq_eq]at h
  rcases h.1 with (h3 | h3) | h3
  ·exact .inl (by omega)
  ·exact .inr (.inl h3)
  ·exact .inr (.inr h3)
 | a::as, k::ks, j0, h, j+1, a', k', h1, h2=>by
  unfold jV.freeM at h
  simp only[Bool.and_eq_true]at h
  have:=wu h.2 j a' k' (by simpa using h1) (by simpa using h2)
  rcases this with h3 | h3
  ·exact .inl (by omega)
  ·exact .inr h3
 | [], _, _, _, _, _, _, h1, _=>by simp at h1
 | _::_, [], _, _, _, _, _, _, h2=>by simp at h2
theorem wv {st:St} {n0:Nat} {ancs:List (List Bool)} {mks:List Mk}:∀{as:List (List Bool)} {ks:List Mk} {i0:Nat}, jV st n0 i0 as ks ancs mks=true→∀(i:Nat) (a:List Bool) (k:Mk), as[i]?=some a→ks[i]?=some k→k.b.live=true∨k.kl.isSome=true →
  bN (n0+(i0+i)) st.env=true∧bx (n0+(i0+i)) st.heap=true∧jV.freeM (i0+i) (n0+(i0+i)) 0 ancs mks=true
 | a::as, k::ks, i0, h, 0, a', k', h1, h2, hl=>by
  simp at h1 h2;subst h1 h2
  unfold jV at h
  simp only[Bool.and_eq_true]at h
  have h3:=h.1
  split at h3
  ·rename_i hb hb2;rw[hb, hb2]at hl;rcases hl with hl | hl<;>cases hl
  ·simp only[Bool.and_eq_true]at h3
   exact⟨h3.1.1, h3.1.2, h3.2⟩
 | a::as, k::ks, i0, h, i+1, a', k', h1, h2, hl=>by
  unfold jV at h
  simp only[Bool.and_eq_true]at h
  have:=wv h.2 i a' k' (by simpa using h1) (by simpa using h2) hl
  rwa [show i0+1+i=i0+(i+1)from by omega]at this
 | [], _, _, _, _, _, _, h1, _, _=>by simp at h1
 | _::_, [], _, _, _, _, _, _, h2, _=>by simp at h2
theorem ww:∀{os:List Oper}, wt os=true→∀(i j:Nat) (o o':Oper) (t:Nat), os[i]?=some o→os[j]?=some o'→o.dst=some t→o'.dst=some t→i=j
 | x::r, h, i, j, o, o', t, hi, hj, h1, h2=>by
  unfold wt at h
  simp only[Bool.and_eq_true]at h
  have key:∀(k:Nat) (y z:Oper), r[k]?=some y→z=x→z.dst=some t→y.dst=some t→False:=by
   intro k y z hy hz hd hd2
   subst hz
   have h3:=h.1
   rw[hd]at h3
   simp only[List.all_eq_true]at h3
   have:=h3 y (List.mem_of_getElem? hy)
   rw[hd2]at this
   simp at this
  cases i with
  | zero =>
   cases j with
   | zero=>rfl
   | succ j=>simp at hi hj;exact(key j o' o hj hi.symm h1 h2).elim
  | succ i =>
   cases j with
   | zero=>simp at hi hj;exact(key i o o' hi hj.symm h2 h1).elim
   | succ j=>simp at hi hj;rw[ww h.2 i j o o' t hi hj h1 h2]
 | [], _, i, _, _, _, _, hi, _, _, _=>by simp at hi
theorem pO {ops:List Oper} {ancs:List (List Bool)} {m:Nat} {ls:Array Bool} (hcl:∀i o, ls.getD i false=true→ops[i]?=some o→∀e∈o.after, Region.binds .any e=true→ls.getD e.on false=true)
  (hlt:∀i o, ops[i]?=some o→∀e∈o.after, Region.binds .any e=true→e.on<i) (hm:m≤ops.length)
  (hanc:∀(j:Nat) (o:Oper), (ops.take m)[j]?=some o→ancs.getD j []=hT (ancs.take j) o.after.toList) (hal:ancs.length=m) :
  ∀(i:Nat) (o:Oper), i<m→ops[i]?=some o→(∀e∈o.after, Region.binds .any e=true→ls.getD e.on false=true)→∀j, (ancs.getD i []).getD j false=true→ls.getD j false=true:=by
 intro i
 induction i using Nat.strongRecOn with
 | _ i ih =>
  intro o hi ho hr j hj
  rw[hanc i o (by rw[List.getElem?_take, if_pos hi];exact ho)]at hj
  obtain⟨e, he, hb, hc⟩:=qy hj
  have he':e∈o.after:=by simpa using he
  have hlst:=hr e he' hb
  have hei:=hlt i o ho e he' hb
  rcases hc with rfl | hc
  ·exact hlst
  ·have e2:(ancs.take i).getD e.on []=ancs.getD e.on []:=by
    unfold List.getD;rw[List.getElem?_take, if_pos hei]
   rw[e2]at hc
   have hoe:ops[e.on]?=some (ops[e.on]'(by omega)):=List.getElem?_eq_getElem (by omega)
   exact ih e.on hei _ (by omega) hoe (hcl e.on _ hlst hoe) j hc
theorem cJ (listed:Array Bool) (m j:Nat) (h:j<m):((List.range m).map fun j=>listed.getD j false).getD j false=listed.getD j false:=by
 simp[List.getD, h]
theorem rZ (listed:Array Bool) (m j:Nat) (h:m≤j):((List.range m).map fun j=>listed.getD j false).getD j false=false:=by
 simp[List.getD, h]
theorem Fp {ops:List Oper} {ancs:List (List Bool)} {m:Nat} (hlt:∀i o, ops[i]?=some o→∀e∈o.after, Region.binds .any e=true→e.on<i) (hm:m≤ops.length)
  (hanc:∀(j:Nat) (o:Oper), (ops.take m)[j]?=some o→ancs.getD j []=hT (ancs.take j) o.after.toList):∀(i:Nat), i<m→∀j, (ancs.getD i []).getD j false=true→j<i:=by
 intro i
 induction i using Nat.strongRecOn with
 | _ i ih =>
  intro hi j hj
  have hoi:ops[i]?=some (ops[i]'(by omega)):=List.getElem?_eq_getElem (by omega)
  rw[hanc i _ (by rw[List.getElem?_take, if_pos hi];exact hoi)]at hj
  obtain⟨e, he, hb, hc⟩:=qy hj
  have he':e∈(ops[i]'(by omega)).after:=by simpa using he
  have hei:=hlt i _ hoi e he' hb
  rcases hc with rfl | hc
  ·exact hei
  ·have e2:(ancs.take i).getD e.on []=ancs.getD e.on []:=by
    unfold List.getD;rw[List.getElem?_take, if_pos hei]
   rw[e2]at hc
   have:=ih e.on hei (by omega) j hc
   omega
theorem uM {id:Nat} {x:Fz}:∀{env:List (Nat×D)} {t:Nat} {d:D}, (t, d)∈env→(t, eL id x d)∈oJ id x env
 | (s, e)::r, t, d, h=>by
  rcases List.mem_cons.1 h with h | h
  ·cases h;exact List.mem_cons_self ..
  ·exact List.mem_cons_of_mem _ (uM h)
theorem aX.addAt {S:Nat→Prop} {μ:Nat→Value} {st:St} {a:Act} {w:World} (h:aX C S μ st a w) {id:Nat} (hd:st.heap[id]?=some .dead) (hf:bN id st.env=true) (hh:bx id st.heap=true) {B:aq} {u:Value} (hA2:B.isOwn=true) {μ1:Nat→Value} (hbox:aJ S μ1 w u B)
  (hnew:∀b, bE u b→C.W.heap.size≤b∧¬S b∧∀(i:Nat) (A:aq), st.heap[i]?=some A→A.live=true→¬bE (μ i) b):aX C S (aV μ id u) ⟨st.env, st.heap.set id B⟩ a w:=by
 have hother:∀i, i≠id→aV μ id u i=μ i:=fun i hi=>aF _ _ hi
 have hlt:id<st.heap.length:=(List.getElem?_eq_some_iff.1 hd).1
 have get:∀(i:Nat) (A:aq), (st.heap.set id B)[i]?=some A→(i≠id∧st.heap[i]?=some A)∨(i=id∧A=B):=by
  intro i A hA
  by_cases hi:i=id
  ·subst hi
   rw[List.getElem?_set_self hlt]at hA
   exact .inr ⟨rfl, by cases hA;rfl⟩
  ·rw[List.getElem?_set_ne (Ne.symm hi)]at hA
   exact .inl ⟨hi, hA⟩
 refine⟨h.os, h.tape, h.output, h.size, h.old, h.mono, h.new, h.slt, ?_, ⟨?_, ?_, ?_⟩, ?_, ?_, h.tsize, ?_⟩
 ·intro t d hm
  obtain⟨q1, q2⟩:=h.env t d hm
  exact⟨q1, q2.stable (fun _ h _=>h) (fun _ _ _=>rfl) (Nat.le_refl _) (fun id hid=>aF _ _ (fun e=>by rw[e, b5 hf hm]at hid;cases hid))⟩
 ·intro i A hA
  rcases get i A hA with ⟨hi, hA⟩ | ⟨rfl, rfl⟩
  ·rw[hother i hi]
   exact(h.heap.box i A hA).stable (fun _ h _=>h) (fun _ _ _=>rfl) (Nat.le_refl _) (fun id hid=>aF _ _ (fun e=>by rw[e, b7 hh hA]at hid;cases hid)) (fun _ _=>rfl)
  ·rw[av]
   exact hbox.arrMu hA2
 ·intro i j A A' b hA hA' la la' hb hb'
  have g1:=get i A hA
  have g2:=get j A' hA'
  clear hA hA'
  rcases g1 with ⟨hi, hA⟩ | ⟨ei, eA⟩<;>rcases g2 with ⟨hj, hA'⟩ | ⟨ej, eA'⟩
  ·rw[hother i hi]at hb;rw[hother j hj]at hb'
   exact h.heap.apart i j A A' b hA hA' la la' hb hb'
  ·rw[hother i hi]at hb;rw[ej, av]at hb'
   exact((hnew b hb').2.2 i A hA la hb).elim
  ·rw[hother j hj]at hb';rw[ei, av]at hb
   exact((hnew b hb).2.2 j A' hA' la' hb').elim
  ·rw[ei, ej]
 ·intro i A b hA la hb
  rcases get i A hA with ⟨hi, hA⟩ | ⟨rfl, rfl⟩
  ·rw[hother i hi]at hb
   exact h.heap.notS i A b hA la hb
  ·rw[av]at hb
   exact(hnew b hb).2.1
 ·intro i A b hA la hb
  rcases get i A hA with ⟨hi, hA⟩ | ⟨rfl, rfl⟩
  ·rw[hother i hi]at hb
   exact h.may i A b hA la hb
  ·rw[av]at hb
   exact(hnew b hb).1
 ·obtain⟨mk, e1, e2, e3⟩:=h.defers
  refine⟨mk, e1, e2, fun b hb=>?_⟩
  obtain⟨g1, g2, g3, g4⟩:=e3 b hb
  refine⟨g1, g2, g3, fun i A hA la hbk=>?_⟩
  rcases get i A hA with ⟨hi, hA⟩ | ⟨rfl, rfl⟩
  ·rw[hother i hi]at hbk
   exact g4 i A hA la hbk
  ·rw[av]at hbk
   obtain⟨cs, T, x, hh2⟩:=hbox.ownBlk hA2 hbk
   rw[hh2]at g1
   simp at g1
 ·intro i A b hA la hb
  rcases get i A hA with ⟨hi, hA⟩ | ⟨rfl, rfl⟩
  ·rw[hother i hi]at hb
   exact h.ro i A b hA la hb
  ·cases A<;>first | (cases hA2;done) | cases la
theorem aX.alias {S:Nat→Prop} {μ:Nat→Value} {st:St} {a:Act} {w:World} (h:aX C S μ st a w) {q p:Nat} {A:aq} (hq:st.heap[q]?=some A) (hA:A.isArr=true) (hp:st.heap[p]?=some .dead) (hf:bN p st.env=true) (hh:bx p st.heap=true) :
  aX C S (aV μ p (μ q)) ⟨st.env, (st.heap.set q .dead).set p A⟩ a w:=by
 have hl:A.live=true:=by cases A<;>first | rfl | cases hA
 have hqp:q≠p:=fun e=>by subst e;rw[hq]at hp;cases hp;cases hl
 have hqL:q<st.heap.length:=(List.getElem?_eq_some_iff.1 hq).1
 have hpL:p<st.heap.length:=(List.getElem?_eq_some_iff.1 hp).1
 have h1:aX C S μ ⟨st.env, st.heap.set q .dead⟩ a w:=h.heapTo (fun i B hB=>by
  by_cases e:i=q
  ·subst e;rw[List.getElem?_set_self hqL]at hB;cases hB;exact .inl rfl
  ·rw[List.getElem?_set_ne (Ne.symm e)]at hB;exact .inr hB)
 have hp1:(st.heap.set q .dead)[p]?=some .dead:=by rw[List.getElem?_set_ne hqp];exact hp
 have hh1:bx p (st.heap.set q .dead)=true:=qB (fun i B hB=>by
  by_cases e:i=q
  ·subst e;rw[List.getElem?_set_self hqL]at hB;cases hB;rfl
  ·rw[List.getElem?_set_ne (Ne.symm e)]at hB;exact b7 hh hB)
 refine h1.addAt hp1 hf hh1 (aq.isOwn_arr hA) (h.heap.box q A hq) (fun b hb=>⟨h.may q A b hq hl hb, h.heap.notS q A b hq hl hb, fun i B hB lB hbk=>?_⟩)
 have hB':(st.heap.set q .dead)[i]?=some B:=hB
 by_cases e:i=q
 ·subst e;rw[List.getElem?_set_self hqL]at hB';cases hB';cases lB
 ·rw[List.getElem?_set_ne (Ne.symm e)]at hB'
  exact e (h.heap.apart i q B A b hB' hq lB hl hbk hb)
theorem Ev.dwG {id:Nat} {ops:List Oper} {st:St} {Q:Exit→St→Prop} (ovs:List (Nat×Ov)) (m:Nat) (late:Nat→Bool) {ancs:List (List Bool)} {ks:List Mk} (hmn:m≤ops.length)
  (hal:ancs.length=(ops.take m).length) (hkl:ks.length=(ops.take m).length)
  (hmk:∀(j:Nat) (o:Oper), (ops.take m)[j]?=some o→(ancs.getD j [])=hT (ancs.take j) o.after.toList ∧
    ((f8 ops (dK (ops.take m) st (ks.take j) (ancs.getD j [])) o=some true∧∃k p, uI C.P (dK (ops.take m) st (ks.take j) (ancs.getD j [])).heap (eB (dK (ops.take m) st (ks.take j) (ancs.getD j [])).env) (oL ovs j) o.op=(k, p)∧p∧ks[j]?=some k) ∨
     (f8 ops (dK (ops.take m) st (ks.take j) (ancs.getD j [])) o=some false∧ks[j]?=some (nu (.tup []) .dead))))
  (hrok:Jc ops.toArray uK ⟨Array.replicate C.nt undef, []⟩=true) (hdst:nz C.nt (ops.take m)=true) (hdd:wt (ops.take m)=true) (hndb:ops.all (fun o=>!cI o)=true)
  (hfree:jV st st.heap.length 0 ancs ks ancs ks=true) (hkillok:kI st.heap.length ancs ks=true) (hmix:C.P.follows .mixedOrders=true)
  (htailL:∀i, m≤i→i<ops.length→∀j, j<m→late j=false→cH ops.toArray i j=true)
  (hjump:∀(listed:Array Bool) (S:Nat→Prop) (μ:Nat→Value) (a':Act) (w:World), listed.size=ops.length →
    (∀i o, listed.getD i false=true→ops[i]?=some o→∀e∈o.after, Region.binds .any e=true→listed.getD e.on false=true)→aX C S μ (dK (ops.take m) st ks ((List.range m).map fun j=>listed.getD j false)) a' w →
    (∀j, j<m→late j=false→listed.getD j false=true)→(∀i, m≤i→listed.getD i false=false) →
    wpAnyIn (nh C.rd) 0 C.P .any ops.toArray (fun e a' w'=>∃st' S' μ', Q e st'∧aX C S' μ' st' a' w') (yL listed m+(ops.length-m)) listed a' w) :
  Ev C (.region id ops.toArray true) Q st:=fun a w S μ hR=>by
 have hnd:BX ops.toArray:=fun i o ho=>by
  rw[List.all_eq_true]at hndb
  have:=hndb o (List.mem_of_getElem? (by simpa using ho))
  simpa using this
 have hml:(ops.take m).length=m:=by rw[List.length_take];omega
 rw[hml]at hal hkl
 have hok:Hv ops.toArray uK a:=yO (zb hrok (by simp[hR.tsize]) rfl rfl)
 have htk:∀(k:Nat) (o:Oper), k<m→ops[k]?=some o→(ops.take m)[k]?=some o:=fun k o hk ho=>by rw[List.getElem?_take, if_pos hk];exact ho
 have hsz:ops.toArray.size=ops.length:=by simp
 have hdsts:∀(k:Nat) (o:Oper), k<m→ops[k]?=some o→(∃t, o.dst=some t∧t<C.nt∧kF o.op=false)∨(o.dst=none∧kF o.op=true):=by
  have key:∀(l:List Oper), nz C.nt l=true→∀(k:Nat) (o:Oper), l[k]?=some o→(∃t, o.dst=some t∧t<C.nt∧kF o.op=false)∨(o.dst=none∧kF o.op=true):=by
   intro l
   induction l with
   | nil=>intro _ k o ho;simp at ho
   | cons x r ih =>
    intro hd k o ho
    unfold nz at hd
    simp only[Bool.and_eq_true]at hd
    cases k with
    | zero =>
     simp at ho;subst ho
     have h1:=hd.1
     split at h1
     ·rename_i t ht;simp only[Bool.and_eq_true, Bool.not_eq_true']at h1;exact .inl ⟨t, ht, by simpa using h1.1, h1.2⟩
     ·rename_i ht;exact .inr ⟨ht, h1⟩
    | succ k=>exact ih hd.2 k o (by simpa using ho)
  exact fun k o hk ho=>key _ hdst k o (htk k o hk ho)
 let lsO:Array Bool→List Bool:=fun listed=>(List.range m).map fun j=>listed.getD j false
 have main:∀(fuel:Nat) (listed:Array Bool) (env:Nat→Value) (S:Nat→Prop) (μ:Nat→Value) (a':Act) (w:World), lU ops.toArray a listed env a'→aX C S μ (dK (ops.take m) st ks (lsO listed)) a' w→yL listed m=fuel→(∀i, m≤i→listed.getD i false=false) →
   wpAnyIn (nh C.rd) 0 C.P .any ops.toArray (fun e a' w'=>∃st' S' μ', Q e st'∧aX C S' μ' st' a' w') (fuel+(ops.toArray.size-m)) listed a' w:=by
  intro fuel
  induction fuel with
  | zero =>
   intro listed env S μ a' w hF hRL hu hno
   have hj:=hjump listed S μ a' w (by rw[hF.lsize];exact hsz) (fun i o hl ho e he hb=>hF.closed i o hl (by simpa using ho) e he hb) hRL (fun j hj _=>yQ listed m hu j hj) hno
   rw[hu]at hj
   rw[hsz]
   exact hj
  | succ fuel ih =>
   intro listed env S μ a' w hF hRL hu hno
   by_cases hnlate:∀j, j<m→late j=false→listed.getD j false=true
   ·rw[show fuel+1=yL listed m from hu.symm, hsz]
    exact hjump listed S μ a' w (by rw[hF.lsize];exact hsz) (fun i o hl ho e he hb=>hF.closed i o hl (by simpa using ho) e he hb) hRL hnlate hno
   obtain⟨k0, hk01, hk0l, hk02⟩:∃k, k<m∧late k=false∧listed.getD k false=false:=by
    refine Classical.byContradiction fun hn=>hnlate fun j hj hl=>?_
    cases h:listed.getD j false
    ·exact(hn ⟨j, hj, hl, h⟩).elim
    ·rfl
   have hex:∃k, k<m∧listed.getD k false=false:=⟨k0, hk01, hk02⟩
   rw[show fuel+1+(ops.toArray.size-m)=(fuel+(ops.toArray.size-m))+1 from by omega]
   refine⟨fun hnil=>?_, fun i hi=>?_⟩
   ·obtain⟨k, hk1, hk2⟩:=hex
    have:=rG hok listed hF.lsize hnil k (by omega)
    rw[hk2]at this
    cases this
   obtain⟨hnl, o, ho, hr⟩:=(cY listed hF.lsize i).1 hi
   have hlt:i<ops.toArray.size:=(Array.getElem?_eq_some_iff.1 ho).1
   have hlt':i<listed.size:=by rw[hF.lsize];exact hlt
   have him:i<m:=by
    refine Decidable.byContradiction fun hn=>?_
    have:=gn hF.closed 12 i k0 (fun o' ho'=>by rw[ho]at ho';cases ho';exact hr) (htailL i (by omega) (by rw[← hsz];exact hlt) k0 hk01 hk0l)
    rw[hk02]at this
    cases this
   have hu':yL (listed.setIfInBounds i true) m=fuel:=by
    have:=BU listed i hlt' hnl m
    rw[if_pos him]at this
    omega
   have hno':∀k, m≤k→(listed.setIfInBounds i true).getD k false=false:=fun k hk=>by
    rw[aW _ _ _ hlt', if_neg (by omega)]
    exact hno k hk
   have ho':ops[i]?=some o:=by simpa using ho
   obtain⟨han, hcase⟩:=hmk i o (htk i o him ho')
   have hanc:∀j, (ancs.getD i []).getD j false=true→listed.getD j false=true :=
    pO (ops:=ops) (fun i o hl ho e he hb=>hF.closed i o hl (by simpa using ho) e he hb) (fun i o ho e he hb=>hok.top i o (by simpa using ho) e he hb) hmn (fun j o ho=>(hmk j o ho).1) hal i o him ho' hr
   have hgi:(lsO listed).getD i false=false:=by rw[cJ listed m i him];exact hnl
   have hltE:∀i o, ops[i]?=some o→∀e∈o.after, Region.binds .any e=true→e.on<i:=fun i o ho e he hb=>hok.top i o (by simpa using ho) e he hb
   have hancAll:∀(j:Nat) (o:Oper), (ops.take m)[j]?=some o→ancs.getD j []=hT (ancs.take j) o.after.toList:=fun j o ho=>(hmk j o ho).1
   have hlist:∀(p:Nat), listed.getD p false=true→p<m→∀j, (ancs.getD p []).getD j false=true→listed.getD j false=true:=fun p hp hpm j hj =>
    pO (ops:=ops) (ancs:=ancs) (m:=m) (ls:=listed) (fun i o hl ho e he hb=>hF.closed i o hl (by simpa using ho) e he hb) hltE hmn hancAll hal p _ hpm (List.getElem?_eq_getElem (by omega))
     (hF.closed p _ hp (by simp)) j hj
   have hthere:∀(q:Nat), q<m→(ancs.getD i []).getD q false=true→jD (st.heap.length+q) (ks.take i) (ancs.getD i [])=false→jD (st.heap.length+q) ks (lsO listed)=false:=by
    intro q hqm hanq hsafe
    cases hd:jD (st.heap.length+q) ks (lsO listed)
    ·rfl
    obtain⟨p, kp, p1, p2, p3⟩:=qz hd
    have hpm:p<m:=by have:=(List.getElem?_eq_some_iff.1 p1).1;omega
    rw[cJ listed m p hpm]at p2
    obtain⟨_, _, k3⟩:=iK hkillok p1 (JV p3)
    have hip:i≠p:=fun e=>by rw[← e, hnl]at p2;cases p2
    rcases k3 i (by omega) hip (by rw[Nat.add_sub_cancel_left];exact hanq)with k4 | k4
    ·have hpi:=Fp hltE hmn hancAll i him p k4
     rw[tD (ks:=ks.take i) (bs:=ancs.getD i []) (p:=p) (k:=kp) (by rw[List.getElem?_take, if_pos hpi];exact p1) k4 p3]at hsafe
     cases hsafe
    ·have:=hlist p p2 hpm i k4
     rw[hnl]at this;cases this
   have hfillv:∀(q:Nat), q<m→(ancs.getD i []).getD q false=true→jT (st.heap.length+q) (ks.take i) (ancs.getD i [])=jT (st.heap.length+q) ks (lsO listed):=by
    intro q hqm hanq
    cases hv:jT (st.heap.length+q) (ks.take i) (ancs.getD i [])with
    | none =>
     cases ha:jT (st.heap.length+q) ks (lsO listed)with
     | none=>rfl
     | some B =>
      exfalso
      obtain⟨p, kp, p1, p2, p3, _⟩:=f9 ha
      rw[Nat.zero_add]at p2
      have hpm:p<m:=by have:=(List.getElem?_eq_some_iff.1 p1).1;omega
      rw[cJ listed m p hpm]at p2
      obtain⟨_, _, k3⟩:=iK hkillok p1 (uG p3)
      have hip:i≠p:=fun e=>by rw[← e, hnl]at p2;cases p2
      rcases k3 i (by omega) hip (by rw[Nat.add_sub_cancel_left];exact hanq)with k4 | k4
      ·have hpi:=Fp hltE hmn hancAll i him p k4
       exact kG hv p kp (by rw[List.getElem?_take, if_pos hpi];exact p1) (by rw[Nat.zero_add];exact k4) p3
      ·have:=hlist p p2 hpm i k4
       rw[hnl]at this;cases this
    | some B =>
     obtain⟨p, kp, p1, p2, p3, p4⟩:=f9 hv
     rw[Nat.zero_add]at p2
     have hpi:p<i:=by have:=(List.getElem?_eq_some_iff.1 p1).1;rw[List.length_take]at this;omega
     rw[List.getElem?_take, if_pos hpi]at p1
     have hlp:(lsO listed).getD p false=true:=by rw[cJ listed m p (by omega)];exact hanc p p2
     cases ha:jT (st.heap.length+q) ks (lsO listed)with
     | none=>exact(kG ha p kp p1 (by rw[Nat.zero_add];exact hlp) p3).elim
     | some B' =>
      obtain⟨p', kp', r1, r2, r3, r4⟩:=f9 ha
      have e:=uL hkillok p1 r1 (uG p3) (uG r3)
      subst e
      rw[p1]at r1
      cases r1
      rw[p4, r4]
   let sti:=dK (ops.take m) st (ks.take i) (ancs.getD i [])
   have hview:∀(j:Nat) (B:aq), sti.heap[j]?=some B→B=.dead∨(dK (ops.take m) st ks (lsO listed)).heap[j]?=some B:=by
     intro j B hB
     show B=.dead∨(st.heap++dg st.heap.length ks (lsO listed))[j]?=some B
     have hB':(st.heap++dg st.heap.length (ks.take i) (ancs.getD i []))[j]?=some B:=hB
     by_cases hj:j<st.heap.length
     ·rw[List.getElem?_append_left hj]at hB' ⊢;exact .inr hB'
     ·rw[List.getElem?_append_right (by omega)]at hB' ⊢
      generalize hjj:j-st.heap.length=q at hB' ⊢
      have hql:q<(ks.take i).length:=by
       have:=(List.getElem?_eq_some_iff.1 hB').1
       rwa [di]at this
      have hkq:(ks.take i)[q]?=some ((ks.take i)[q]):=List.getElem?_eq_getElem hql
      have hqi:q<i:=by rw[List.length_take]at hql;omega
      have hkq2:ks[q]?=some ((ks.take i)[q]):=by rw[← hkq, List.getElem?_take, if_pos hqi]
      rcases kH hkq hB' with h0 | ⟨g1, g2, g3, g4⟩
      ·exact .inl h0
      ·refine .inr (uJ hkq2 (by rw[cJ listed m q (by omega)];exact hanc q g1) (hthere q (by omega) g1 g2) g3 ?_)
       rw[hfillv q (by omega) g1]at g4
       exact g4
   have hRi:aX C S μ sti a' w:=by
    have h1:=hRL.weak (env:=sti.env) (fun s d hm=>.inr ?_)
    ·exact h1.heapTo hview
    ·rcases List.mem_append.1 hm with hm | hm
     ·exact List.mem_append_left _ hm
     ·obtain⟨j, oj, kj, q1, q2, q3, q4, rfl⟩:=ga hm
      have hji:j<i:=by
       have:=(List.getElem?_eq_some_iff.1 q2).1
       rw[List.length_take]at this;omega
      refine List.mem_append_right _ (nw j q1 (by rw[← q2, List.getElem?_take, if_pos hji]) ?_ q4)
      rw[cJ listed m j (by omega)]
      exact hanc j q3
   have hlenk:(dg st.heap.length (ks.take i) (ancs.getD i [])).length=i:=by rw[di, List.length_take];omega
   have hsl:sti.heap.length=st.heap.length+i:=by
    show(st.heap++_).length=_
    rw[List.length_append, hlenk]
   have ls':∀j, (lsO (listed.setIfInBounds i true)).getD j false=(if j=i then true else (lsO listed).getD j false):=by
    intro j
    by_cases hj:j<m
    ·rw[cJ _ m j hj, cJ _ m j hj, aW _ _ _ hlt']
    ·rw[rZ _ m j (by omega), rZ _ m j (by omega), if_neg (by omega)]
   have hki:∃k, ks[i]?=some k:=⟨_, List.getElem?_eq_getElem (by omega)⟩
   obtain⟨ki, hki⟩:=hki
   have hdold:∀(q:Nat), jD (st.heap.length+q) ks (lsO (listed.setIfInBounds i true))=false→jD (st.heap.length+q) ks (lsO listed)=false:=by
    intro q hq
    cases hd:jD (st.heap.length+q) ks (lsO listed)
    ·rfl
    ·obtain⟨p, kp, p1, p2, p3⟩:=qz hd
     have:=tD (bs:=lsO (listed.setIfInBounds i true)) p1 (by rw[ls'];split;rfl;exact p2) p3
     rw[this]at hq;cases hq
   have hfsame:∀(q:Nat), ki.fil≠some (st.heap.length+q)→jT (st.heap.length+q) ks (lsO listed)=jT (st.heap.length+q) ks (lsO (listed.setIfInBounds i true)):=by
    intro q hq
    refine sL (fun p kp p1 p2=>?_)
    rw[Nat.zero_add, ls', if_neg]
    rintro rfl
    rw[hki]at p1
    cases p1
    exact hq p2
   have hnew:ki.fil=none→∀(q:Nat) (B:aq), (dg st.heap.length ks (lsO (listed.setIfInBounds i true)))[q]?=some B→B=.dead∨(q=i∧B=ki.b)∨(q≠i∧(dg st.heap.length ks (lsO listed))[q]?=some B∧jD (st.heap.length+q) ks (lsO (listed.setIfInBounds i true))=false):=by
    intro hnf q B hB
    have hql:q<ks.length:=by
     have:=(List.getElem?_eq_some_iff.1 hB).1
     rwa [di]at this
    have hkq:ks[q]?=some ks[q]:=List.getElem?_eq_getElem hql
    rcases kH hkq hB with h0 | ⟨g1, g2, g3, g4⟩
    ·exact .inl h0
    by_cases e:q=i
    ·subst e
     rw[hki]at hkq
     rcases g4 with ⟨_, g5⟩ | g5
     ·refine .inr (.inl ⟨rfl, ?_⟩)
      rw[g5]
      simp only[Option.some.injEq]at hkq
      rw[← hkq]
     ·exfalso
      obtain⟨p, kp, p1, p2, p3, _⟩:=f9 g5
      rw[Nat.zero_add, ls']at p2
      obtain⟨_, k2, _⟩:=iK hkillok p1 (uG p3)
      rw[Nat.add_sub_cancel_left]at k2
      by_cases hpq:p=q
      ·subst hpq
       rw[hki]at p1
       cases p1
       rw[hnf]at p3;cases p3
      ·rw[if_neg hpq]at p2
       have hpm:p<m:=by have:=(List.getElem?_eq_some_iff.1 p1).1;omega
       rw[cJ listed m p hpm]at p2
       have:=hlist p p2 hpm q k2
       rw[hnl]at this;cases this
    ·refine .inr (.inr ⟨e, uJ hkq ?_ (hdold q g2) g3 ?_, g2⟩)
     ·have e2:=ls' q
      rw[if_neg e]at e2
      rw[← e2];exact g1
     ·rw[hfsame q (by rw[hnf];simp)];exact g4
   have join0:∀(t:Nat), o.dst=some t→∀(S':Nat→Prop) (μ':Nat→Value) (u:Value) (w':World) (env':List (Nat×D)) (H':List aq), aX C S' μ' ⟨env', H'⟩ (a'.put o.dst u) w'→(∀s d, (s, d)∈(dK (ops.take m) st ks (lsO listed)).env→s≠t→(s, d)∈env')→(t, ki.d)∈env' →
     (∀(j:Nat) (B:aq), (dK (ops.take m) st ks (lsO (listed.setIfInBounds i true))).heap[j]?=some B→B=.dead∨H'[j]?=some B)→aX C S' μ' (dK (ops.take m) st ks (lsO (listed.setIfInBounds i true))) (a'.put o.dst u) w':=by
    intro t hdt S' μ' u w' env' H' hR' he1 he2 hH
    have h2:=hR'.weak (env:=(dK (ops.take m) st ks (lsO (listed.setIfInBounds i true))).env) (fun s d hm=>.inr ?_)
    ·exact h2.heapTo hH
    ·rcases List.mem_append.1 hm with hm | hm
     ·refine he1 s d (List.mem_append_left _ hm) ?_
      rintro rfl
      exact(jU hm).2 o (List.mem_of_getElem? (htk i o him ho')) hdt
     ·obtain⟨j, oj, kj, q1, q2, q3, q4, rfl⟩:=ga hm
      by_cases hj:j=i
      ·subst hj
       rw[hki]at q2;cases q2
       rw[htk j o him ho']at q1;cases q1
       rw[hdt]at q4;cases q4
       exact he2
      ·rw[ls', if_neg hj]at q3
       refine he1 s kj.d (List.mem_append_right _ (nw j q1 q2 q3 q4)) ?_
       rintro rfl
       exact hj (ww hdd j i oj o s q1 (htk i o him ho') q4 hdt)
   have hlenA:(dK (ops.take m) st ks (lsO listed)).heap.length=st.heap.length+ks.length:=by
    show(st.heap++dg st.heap.length ks (lsO listed)).length=_
    rw[List.length_append, di]
   have hil:i<ks.length:=(List.getElem?_eq_some_iff.1 hki).1
   have join:∀(t:Nat), o.dst=some t→t<C.nt→ki.fil=none→∀(S':Nat→Prop) (μ':Nat→Value) (u:Value) (w':World) (H':List aq), aX C S' μ' ⟨(dK (ops.take m) st ks (lsO listed)).env, H'⟩ a' w'→H'=(dK (ops.take m) st ks (lsO listed)).heap.set (st.heap.length+i) ki.b→ak S' μ' w' ki.d u→aX C S' μ' (dK (ops.take m) st ks (lsO (listed.setIfInBounds i true))) (a'.put o.dst u) w':=by
    intro t hdt htn hnf S' μ' u w' H' hR' hH' hd
    subst hH'
    have h1:=hR'.put htn hd
    rw[← hdt]at h1
    refine join0 t hdt S' μ' u w' _ _ h1 (fun s d hm hs=>List.mem_cons_of_mem _ (jW hm hs)) (List.mem_cons_self ..) (fun j B hB=>?_)
    show B=.dead∨((dK (ops.take m) st ks (lsO listed)).heap.set (st.heap.length+i) ki.b)[j]?=some B
    have hB':(st.heap++dg st.heap.length ks (lsO (listed.setIfInBounds i true)))[j]?=some B:=hB
    by_cases hj2:j<st.heap.length
    ·rw[List.getElem?_append_left hj2]at hB'
     rw[List.getElem?_set_ne (by omega)]
     refine .inr ?_
     show(st.heap++dg st.heap.length ks (lsO listed))[j]?=some B
     rw[List.getElem?_append_left hj2];exact hB'
    ·rw[List.getElem?_append_right (by omega)]at hB'
     rcases hnew hnf _ B hB' with h1 | ⟨h1, rfl⟩ | ⟨h1, h2, _⟩
     ·exact .inl h1
     ·rw[show j=st.heap.length+i by omega, List.getElem?_set_self (by rw[hlenA];omega)]
      exact .inr rfl
     ·rw[List.getElem?_set_ne (by omega)]
      refine .inr ?_
      show(st.heap++dg st.heap.length ks (lsO listed))[j]?=some B
      rw[List.getElem?_append_right (by omega)];exact h2
   have hdeadi:(dK (ops.take m) st ks (lsO listed)).heap[st.heap.length+i]?=some .dead:=by
    show(st.heap++dg st.heap.length ks (lsO listed))[st.heap.length+i]?=some .dead
    rw[List.getElem?_append_right (by omega), Nat.add_sub_cancel_left, ny _ _ _ _ _ hki, if_neg (by rw[hgi];simp)]
   have next:∀(S':Nat→Prop) (μ':Nat→Value) (u:Value) (w':World), aX C S' μ' (dK (ops.take m) st ks (lsO (listed.setIfInBounds i true))) (a'.put o.dst u) w' →
     wpAnyIn (nh C.rd) 0 C.P .any ops.toArray (fun e a' w'=>∃st' S' μ', Q e st'∧aX C S' μ' st' a' w') (fuel+(ops.toArray.size-m)) (listed.setIfInBounds i true) (a'.put o.dst u) w' :=
    fun S' μ' u w' hR'=>ih _ _ S' μ' _ w' (hF.step hok ho hnl hr u) hR' hu' hno'
   have joinN:∀(S':Nat→Prop) (μ':Nat→Value) (w':World) (H':List aq), o.dst=none→aX C S' μ' ⟨(dK (ops.take m) st ks (lsO listed)).env, H'⟩ a' w' →
     (∀(j:Nat) (B:aq), (dK (ops.take m) st ks (lsO (listed.setIfInBounds i true))).heap[j]?=some B→B=.dead∨H'[j]?=some B)→aX C S' μ' (dK (ops.take m) st ks (lsO (listed.setIfInBounds i true))) a' w':=by
    intro S' μ' w' H' hdn hR' hH
    have h2:=hR'.weak (env:=(dK (ops.take m) st ks (lsO (listed.setIfInBounds i true))).env) (fun s d hm=>.inr ?_)
    ·exact h2.heapTo hH
    ·rcases List.mem_append.1 hm with hm | hm
     ·exact List.mem_append_left _ hm
     ·obtain⟨j, oj, kj, q1, q2, q3, q4, rfl⟩:=ga hm
      by_cases hj:j=i
      ·subst hj
       rw[htk j o him ho']at q1;cases q1
       rw[hdn]at q4;cases q4
      ·rw[ls', if_neg hj]at q3
       exact List.mem_append_right _ (nw j q1 q2 q3 q4)
   unfold wpOpIn
   simp only[ho]
   rcases hdsts i o him ho' with ⟨t, hdt, htn, hns⟩ | ⟨hdn, hst⟩
   rotate_left
   ·-- a store that fills
    have hnext0:∀(S':Nat→Prop) (μ':Nat→Value) (w':World), aX C S' μ' (dK (ops.take m) st ks (lsO (listed.setIfInBounds i true))) a' w' →
      wpAnyIn (nh C.rd) 0 C.P .any ops.toArray (fun e a' w'=>∃st' S' μ', Q e st'∧aX C S' μ' st' a' w') (fuel+(ops.toArray.size-m)) (listed.setIfInBounds i true) a' w':=by
     intro S' μ' w' hR'
     have hput:a'.put o.dst undef=a':=by rw[hdn];rfl
     have h1:=next S' μ' undef w' (by rw[hput];exact hR')
     rw[hput]at h1
     exact h1
    have hsame:ki.fil=none→ki.b=.dead→∀(j:Nat) (B:aq), (dK (ops.take m) st ks (lsO (listed.setIfInBounds i true))).heap[j]?=some B→B=.dead∨(dK (ops.take m) st ks (lsO listed)).heap[j]?=some B:=by
     intro hnf hbd j B hB
     have hB':(st.heap++dg st.heap.length ks (lsO (listed.setIfInBounds i true)))[j]?=some B:=hB
     show B=.dead∨(st.heap++dg st.heap.length ks (lsO listed))[j]?=some B
     by_cases hj2:j<st.heap.length
     ·rw[List.getElem?_append_left hj2]at hB' ⊢;exact .inr hB'
     ·rw[List.getElem?_append_right (by omega)]at hB' ⊢
      rcases hnew hnf _ B hB' with h1 | ⟨_, h1⟩ | ⟨_, h2, _⟩
      ·exact .inl h1
      ·rw[hbd]at h1;exact .inl h1
      ·exact .inr h2
    rcases hcase with ⟨hg, k, p, hq, hp, hk⟩ | ⟨hg, hk⟩
    ·rw[hki]at hk
     cases hk
     rw[if_pos (by rw[b8 hRi hg])]
     cases hop:o.op<;>rw[hop]at hst<;>try (cases hst)
     rename_i ty ad x
     rw[hop]at hq
     obtain⟨id, T, cs, cs', f1, f2, f3⟩:=AW hq hp
     have f1':(dK (ops.take m) st ks (lsO listed)).heap[id]?=some (.var T cs):=(hview id _ f1).resolve_left (by simp)
     obtain⟨w', h1, h2⟩:=qv hRL (hRi.eval ad) (hRi.eval x) (f3 _ f1') trivial
     have hr:(execOp a'.eval o).run C.P w=.ok .skip w':=by
      simp only[execOp, hop, Sem.run_bind, h1, Result.andThen_ok, Sem.run_pure]
     have hkb:ki.b=.var T cs':=by rw[f2]
     have hkl:ki.kl=some id:=by rw[f2]
     have hkf:ki.fil=some id:=by unfold Mk.fil;rw[hkb];exact hkl
     obtain⟨k1, k2, _⟩:=iK hkillok hki hkl
     refine Lw hnd ho ?_
     rw[hr, Oper.uponIn_skip, hdn]
     refine hnext0 S μ w' (joinN S μ w' _ hdn h2 (fun j B hB=>?_))
     have hB':(st.heap++dg st.heap.length ks (lsO (listed.setIfInBounds i true)))[j]?=some B:=hB
     have hidl:id<(dK (ops.take m) st ks (lsO listed)).heap.length:=(List.getElem?_eq_some_iff.1 f1').1
     by_cases hj2:j<st.heap.length
     ·rw[List.getElem?_append_left hj2]at hB'
      rw[List.getElem?_set_ne (by omega)]
      refine .inr ?_
      show(st.heap++dg st.heap.length ks (lsO listed))[j]?=some B
      rw[List.getElem?_append_left hj2];exact hB'
     ·rw[List.getElem?_append_right (by omega)]at hB'
      generalize hjq:j-st.heap.length=q at hB'
      have hje:j=st.heap.length+q:=by omega
      have hql:q<ks.length:=by
       have:=(List.getElem?_eq_some_iff.1 hB').1
       rwa [di]at this
      have hkq:ks[q]?=some ks[q]:=List.getElem?_eq_getElem hql
      rcases kH hkq hB' with h0 | ⟨g1, g2, g3, g4⟩
      ·exact .inl h0
      have hqi:q≠i:=fun e=>by
       subst e
       rw[hki]at hkq
       simp only[Option.some.injEq]at hkq
       rw[← hkq, hkf]at g3;cases g3
      by_cases e:j=id
      ·refine .inr ?_
       rw[e, List.getElem?_set_self hidl]
       have hfi:jT (st.heap.length+q) ks (lsO (listed.setIfInBounds i true))=some B→B=ki.b:=fun g5=>by
        obtain⟨p', kp, p1, p2, p3, p4⟩:=f9 g5
        have e3:=uL hkillok p1 hki (uG p3) (by rw[hkl, ← e, hje])
        subst e3
        rw[hki]at p1
        cases p1
        exact p4
       rcases g4 with ⟨g5, _⟩ | g5
       ·exact(kG g5 i ki hki (by rw[Nat.zero_add, ls', if_pos rfl]) (by rw[hkf, ← e, hje])).elim
       ·rw[hfi g5, hkb]
      ·rw[List.getElem?_set_ne (Ne.symm e)]
       refine .inr ?_
       show(st.heap++dg st.heap.length ks (lsO listed))[j]?=some B
       rw[List.getElem?_append_right (by omega), hjq]
       refine uJ hkq ?_ (hdold q g2) g3 ?_
       ·have e2:=ls' q
        rw[if_neg hqi]at e2
        rw[← e2];exact g1
       ·rw[hfsame q (by rw[hkf, ← hje];intro h;cases h;exact e rfl)];exact g4
    ·rw[hki]at hk
     cases hk
     rw[if_neg (by rw[b8 hRi hg];simp)]
     have h9:=hnext0 S μ w (joinN S μ w _ hdn hRL (hsame rfl rfl))
     refine⟨fun f _=>pB C.rd f, ?_⟩
     rw[hdn]
     exact h9
   rcases hcase with ⟨hg, k, p, hq, hp, hk⟩ | ⟨hg, hk⟩
   ·rw[hki]at hk
    cases hk
    rw[if_pos (by rw[b8 hRi hg])]
    have hfr2:ki.b.live=true∨ki.kl.isSome=true→bN (st.heap.length+i) (dK (ops.take m) st ks (lsO listed)).env=true∧bx (st.heap.length+i) (dK (ops.take m) st ks (lsO listed)).heap=true:=by
     intro hlive
     obtain⟨f1, f2, f3⟩:=wv hfree i _ ki (List.getElem?_eq_getElem (show i<ancs.length by omega)) hki hlive
     rw[Nat.zero_add]at f1 f2 f3
     have hfr:∀(j:Nat) (k:Mk), ks[j]?=some k→(lsO listed).getD j false=true→D.free (st.heap.length+i) k.d=true∧aq.free (st.heap.length+i) k.b=true:=by
      intro j k hkj hlj
      have hjm:j<m:=by have:=(List.getElem?_eq_some_iff.1 hkj).1;omega
      rw[cJ listed m j hjm]at hlj
      rcases wu f3 j _ k (List.getElem?_eq_getElem (show j<ancs.length by omega)) hkj with h1 | h1 | h1
      ·rw[Nat.zero_add]at h1;subst h1;rw[hnl]at hlj;cases hlj
      ·exfalso
       have hoj:ops[j]?=some (ops[j]'(by omega)):=List.getElem?_eq_getElem (by omega)
       have:=pO (ops:=ops) (ancs:=ancs) (m:=m) (ls:=listed) (fun i o hl ho e he hb=>hF.closed i o hl (by simpa using ho) e he hb) (fun i o ho e he hb=>hok.top i o (by simpa using ho) e he hb) hmn (fun j o ho=>(hmk j o ho).1) hal j _ hjm hoj
        (hF.closed j _ hlj (by simp)) i (by
         have e:ancs.getD j []=ancs[j]'(by omega):=by simp[List.getD, List.getElem?_eq_getElem (show j<ancs.length by omega)]
         rw[e];exact h1)
       rw[hnl]at this;cases this
      ·exact h1
     refine⟨zh (fun s d hm=>?_), qB (fun j B hB=>?_)⟩
     ·rcases List.mem_append.1 hm with hm | hm
      ·exact b5 f1 (jU hm).1
      ·obtain⟨j, oj, kj, q1, q2, q3, q4, rfl⟩:=ga hm
       exact(hfr j kj q2 q3).1
     ·have hB':(st.heap++dg st.heap.length ks (lsO listed))[j]?=some B:=hB
      by_cases hj2:j<st.heap.length
      ·rw[List.getElem?_append_left hj2]at hB';exact b7 f2 hB'
      ·rw[List.getElem?_append_right (by omega)]at hB'
       generalize hq2:j-st.heap.length=q at hB'
       have hql:q<ks.length:=by
        have:=(List.getElem?_eq_some_iff.1 hB').1
        rwa [di]at this
       have hkq:ks[q]?=some ks[q]:=List.getElem?_eq_getElem hql
       rcases kH hkq hB' with rfl | ⟨g1, _, _, g4⟩
       ·rfl
       ·rcases g4 with ⟨_, rfl⟩ | g5
        ·exact(hfr q _ hkq g1).2
        ·obtain⟨p', kp, p1, p2, _, rfl⟩:=f9 g5
         rw[Nat.zero_add]at p2
         exact(hfr p' kp p1 p2).2
    have hkill:∀(u:Value) (w':World) (id0:Nat) (A0 B0:aq), ki.kl=some id0→sti.heap[id0]?=some A0→A0.isArr=true→B0.isArr=true→w.grownBy w' (aG (μ id0))→aJ S μ w' u B0→(∀b, bE u b→aG (μ id0)=some b∨w.heap.size≤b) →
      ((ki.b=B0∧ki.d=.own sti.heap.length)∨∃(E sz:Nat) (α:Type) (enc:α→List V) (d:α) (l:List α), B0=.arr E sz enc d l∧ki.b=.dead∧ki.d=.v (.sl sz enc d l))→∃S' μ', aX C S' μ' (dK (ops.take m) st ks (lsO (listed.setIfInBounds i true))) (a'.put o.dst u) w':=by
     intro u w' id0 A0 B0 hkl hA0 hAa hBa hgr hbox hblk hval
     obtain⟨k1, k2, _⟩:=iK hkillok hki hkl
     have hnf:ki.fil=none:=HQ (by
      rcases hval with ⟨e1, _⟩ | ⟨_, _, _, _, _, _, _, e1, _⟩
      ·exact .inl (by rw[e1];exact(aq.isOwn_arr hBa))
      ·exact .inr e1)
     obtain⟨f1, f2⟩:=hfr2 (.inr (by rw[hkl];rfl))
     have hAl:A0.live=true:=by cases A0<;>first | rfl | cases hAa
     have hBl:B0.live=true:=by cases B0<;>first | rfl | cases hBa
     have hAct:(dK (ops.take m) st ks (lsO listed)).heap[id0]?=some A0:=by
      refine(hview id0 A0 hA0).resolve_left (fun e=>?_)
      rw[e]at hAl;cases hAl
     have hne:id0≠st.heap.length+i:=fun e=>by rw[e, hdeadi]at hAct;cases hAct;cases hAl
     have h1:=hRL.alias hAct hAa hdeadi f1 f2
     have hPl:st.heap.length+i<(dK (ops.take m) st ks (lsO listed)).heap.length:=by rw[hlenA];omega
     have hidl:id0<(dK (ops.take m) st ks (lsO listed)).heap.length:=(List.getElem?_eq_some_iff.1 hAct).1
     let H1:=((dK (ops.take m) st ks (lsO listed)).heap.set id0 .dead).set (st.heap.length+i) A0
     have hH1P:H1[st.heap.length+i]?=some A0:=List.getElem?_set_self (by rw[List.length_set];exact hPl)
     have hH1:∀j, j≠st.heap.length+i→j≠id0→H1[j]?=(dK (ops.take m) st ks (lsO listed)).heap[j]?:=fun j h1 h2=>by
      show(((dK (ops.take m) st ks (lsO listed)).heap.set id0 .dead).set (st.heap.length+i) A0)[j]?=_
      rw[List.getElem?_set_ne (Ne.symm h1), List.getElem?_set_ne (Ne.symm h2)]
     have hfH1:bx (st.heap.length+i) H1=true:=qB (fun j B hB=>by
      by_cases e1:j=st.heap.length+i
      ·rw[e1, hH1P]at hB;cases hB;cases A0<;>first | rfl | cases hAa
      ·by_cases e2:j=id0
       ·subst e2
        have:H1[j]?=some .dead:=by
         show(((dK (ops.take m) st ks (lsO listed)).heap.set j .dead).set (st.heap.length+i) A0)[j]?=_
         rw[List.getElem?_set_ne (Ne.symm e1), List.getElem?_set_self hidl]
        rw[this]at hB;cases hB;rfl
       ·rw[hH1 j e1 e2]at hB;exact b7 f2 hB)
     have h2:=h1.upd0 (id:=st.heap.length+i) (B:=B0) (row:=aG (μ id0)) (u:=u) hgr (fun k hk=>⟨A0, hH1P, hAl, by rw[av];exact .inl hk⟩) (by show _≤H1.length;simp[H1];omega) (hbox.arrMu (aq.isOwn_arr hBa)) hblk (.inr ⟨f1, hfH1⟩) (lV hBa)
     have hset:bG H1 (st.heap.length+i) B0=H1.set (st.heap.length+i) B0:=by
      unfold bG
      rw[if_neg (by
       intro hh;rw[Nat.beq_eq]at hh
       have:H1.length=(dK (ops.take m) st ks (lsO listed)).heap.length:=by simp[H1]
       omega)]
     have h2':aX C S (aV (aV μ (st.heap.length+i) (μ id0)) (st.heap.length+i) u) ⟨(dK (ops.take m) st ks (lsO listed)).env, H1.set (st.heap.length+i) B0⟩ a' w':=by rw[← hset];exact h2
     have hown:ak S (aV (aV μ (st.heap.length+i) (μ id0)) (st.heap.length+i) u) w' (.own (st.heap.length+i)) u:=by
      have:=ak.own (S:=S) (μ:=aV (aV μ (st.heap.length+i) (μ id0)) (st.heap.length+i) u) (w:=w') (st.heap.length+i)
      rwa [av]at this
     have h3:=h2'.put htn hown
     rw[← hdt]at h3
     have hH1l:H1.length=(dK (ops.take m) st ks (lsO listed)).heap.length:=by simp[H1]
     have hlive3:∀(j:Nat) (B:aq), (dK (ops.take m) st ks (lsO (listed.setIfInBounds i true))).heap[j]?=some B→B=.dead∨(j=st.heap.length+i∧B=ki.b)∨(j≠st.heap.length+i∧H1[j]?=some B∧aq.free (st.heap.length+i) B=true):=by
      intro j B hB
      have hB':(st.heap++dg st.heap.length ks (lsO (listed.setIfInBounds i true)))[j]?=some B:=hB
      by_cases hj2:j<st.heap.length
      ·rw[List.getElem?_append_left hj2]at hB'
       have hold:(dK (ops.take m) st ks (lsO listed)).heap[j]?=some B:=by
        show(st.heap++dg st.heap.length ks (lsO listed))[j]?=some B
        rw[List.getElem?_append_left hj2];exact hB'
       exact .inr (.inr ⟨by omega, by rw[hH1 j (by omega) (by omega)];exact hold, b7 f2 hold⟩)
      ·rw[List.getElem?_append_right (by omega)]at hB'
       rcases hnew hnf _ B hB' with q1 | ⟨q1, rfl⟩ | ⟨q1, q2, q3⟩
       ·exact .inl q1
       ·exact .inr (.inl ⟨by omega, rfl⟩)
       ·have hold:(dK (ops.take m) st ks (lsO listed)).heap[j]?=some B:=by
         show(st.heap++dg st.heap.length ks (lsO listed))[j]?=some B
         rw[List.getElem?_append_right (by omega)];exact q2
        have hjid:j≠id0:=fun e=>by
         rw[show st.heap.length+(j-st.heap.length)=id0 by omega, tD (bs:=lsO (listed.setIfInBounds i true)) hki (by rw[ls', if_pos rfl]) (by rw[JW hnf];exact hkl)]at q3
         cases q3
        exact .inr (.inr ⟨by omega, by rw[hH1 j (by omega) hjid];exact hold, b7 f2 hold⟩)
     rcases hval with ⟨e1, e2⟩ | ⟨E, sz, α, enc, d, l, rfl, e1, e2⟩
     ·refine⟨_, _, join0 t hdt S _ u w' _ _ h3 (fun s d hm hs=>List.mem_cons_of_mem _ (jW hm hs)) (by rw[e2, hsl];exact List.mem_cons_self ..) (fun j B hB=>?_)⟩
      rcases hlive3 j B hB with q1 | ⟨rfl, rfl⟩ | ⟨q1, q2, _⟩
      ·exact .inl q1
      ·refine .inr ?_
       rw[List.getElem?_set_self (by rw[hH1l];exact hPl), e1]
      ·refine .inr ?_
       rw[List.getElem?_set_ne (Ne.symm q1)];exact q2
     ·have hbx:(H1.set (st.heap.length+i) (aq.arr E sz enc d l))[st.heap.length+i]?=some (aq.arr E sz enc d l):=List.getElem?_set_self (by rw[hH1l];exact hPl)
      obtain⟨S3, h4⟩:=h3.freezeZ (id:=st.heap.length+i) (Z:=aq.arr E sz enc d l) (z:=.sl (.sl sz enc d l)) hbx rfl (eI (h3.heap.box _ _ hbx) (fun b hb=>.inl hb) (fun b hb=>.inr hb) h3.slt)
      refine⟨S3, _, join0 t hdt S3 _ u w' _ _ h4 (fun s d' hm hs=>?_) ?_ (fun j B hB=>?_)⟩
      ·have:=uM (id:=st.heap.length+i) (x:=.sl (.sl sz enc d l)) (List.mem_cons_of_mem (t, D.own (st.heap.length+i)) (jW (t:=t) hm hs))
       rwa [rP d' (b5 f1 hm)]at this
      ·have:=uM (id:=st.heap.length+i) (x:=.sl (.sl sz enc d l)) (List.mem_cons_self (a:=(t, D.own (st.heap.length+i))) (l:=sK (dK (ops.take m) st ks (lsO listed)).env t))
       have e:eL (st.heap.length+i) (.sl (.sl sz enc d l)) (.own (st.heap.length+i))=.v (.sl sz enc d l):=by simp[eL, Fz.own]
       rw[e2, ← e]
       exact this
      ·rcases hlive3 j B hB with q1 | ⟨_, rfl⟩ | ⟨q1, q2, q3⟩
       ·exact .inl q1
       ·exact .inl e1
       ·refine .inr ?_
        show((fb (st.heap.length+i) (.sl (.sl sz enc d l)) (H1.set (st.heap.length+i) (aq.arr E sz enc d l))).set (st.heap.length+i) .dead)[j]?=some B
        rw[List.getElem?_set_ne (Ne.symm q1), jQ, List.getElem?_set_ne (Ne.symm q1), q2, Option.map_some, v6 B q3]
    rw[Fl hns]at hq
    refine Lw hnd ho (oY.uponIn (AY hRi.heap hRi.slt (fun x=>hRi.eval x) hq hp (R:=fun u w'=>∃S' μ', aX C S' μ' (dK (ops.take m) st ks (lsO (listed.setIfInBounds i true))) (a'.put o.dst u) w') ?_) (fun u w' hex=>?_))
    ·rintro u w' (⟨hkl, hbel, hc⟩ | ⟨id0, A0, B0, hkl, hA0, hAa, hBa, hgr, hbox, hblk, hval⟩)
     rotate_left
     ·exact hkill u w' id0 A0 B0 hkl hA0 hAa hBa hgr hbox hblk hval
     rcases hc with ⟨hbd, hd⟩ | ⟨obj, hlive, rfl, hbox, hd, hblk⟩ | ⟨S2, μ1, u0, hBA, s1, s2, s3, hbox, hd, hblk⟩
     ·-- no box
      refine⟨fun b=>S b∨(w.heap.size≤b∧b<w'.heap.size), μ, join t hdt htn (uH hkl) _ μ u w' (H':=(dK (ops.take m) st ks (lsO listed)).heap.set (st.heap.length+i) ki.b) ?_ rfl ?_⟩
      ·rw[hbd, zg hdeadi]
       exact hRL.grow hbel.os hbel.tape hbel.output hbel.size hbel.block (fun b hb=>.inl hb) (fun b hb=>hb.imp (fun h=>h) (fun h=>h.1)) (fun b hb=>by
        rcases hb with hb | hb
        ·exact Nat.lt_of_lt_of_le (hRL.slt b hb) hbel.size
        ·exact hb.2)
      ·exact hd.stable (fun b hb hl=>hb.imp (fun h=>h) (fun h=>⟨h, hl⟩)) (fun _ _ _=>rfl) (Nat.le_refl _) (fun _ _=>rfl)
     ·-- a new box
      rw[hsl]at hbox hd
      refine⟨S, aV μ (st.heap.length+i) u, join t hdt htn (uH hkl) S _ u _ (H':=bG (dK (ops.take m) st ks (lsO listed)).heap (st.heap.length+i) ki.b) ?_ ?_ hd⟩
      ·refine hRL.upd0 (World.grownBy_alloc w obj none) (fun k hk=>by cases hk) ?_ hbox (fun b hb=>.inr (by rw[hblk b hb];exact Nat.le_refl _)) ?_ (DH hlive)
       ·have:=(List.getElem?_eq_some_iff.1 hdeadi).1;omega
       ·refine .inr ?_
        exact hfr2 (.inl hlive)
      ·unfold bG
       rw[if_neg (by
        have:=(List.getElem?_eq_some_iff.1 hdeadi).1
        intro hh;rw[Nat.beq_eq]at hh;omega)]
     ·-- a box that a call hands over
      rw[hsl]at hd
      have hlive:ki.b.live=true:=by cases hkb:ki.b<;>first | rfl | (rw[hkb]at hBA;cases hBA)
      refine⟨S2, aV μ (st.heap.length+i) u0, join t hdt htn (uH hkl) S2 _ u _ (H':=(dK (ops.take m) st ks (lsO listed)).heap.set (st.heap.length+i) ki.b) ?_ rfl hd⟩
      have hG:aX C S2 μ (dK (ops.take m) st ks (lsO listed)) a' w':=hRL.grow hbel.os hbel.tape hbel.output hbel.size hbel.block s1 s2 s3
      refine hG.addAt hdeadi (hfr2 (.inl hlive)).1 (hfr2 (.inl hlive)).2 hBA hbox (fun b hb=>?_)
      obtain⟨k1, k2⟩:=hblk b hb
      refine⟨Nat.le_trans hRL.size k1, k2, fun j A hA la hbk=>?_⟩
      have:=(hRL.heap.box j A hA).lt la b hbk
      omega
    ·obtain⟨S', μ', hR'⟩:=hex
     exact next S' μ' u w' hR'
   ·rw[hki]at hk
    cases hk
    rw[if_neg (by rw[b8 hRi hg];simp)]
    refine⟨fun f _=>pB C.rd f, next S μ undef w (join t hdt htn rfl S μ undef w (H':=(dK (ops.take m) st ks (lsO listed)).heap.set (st.heap.length+i) .dead) ?_ rfl (.tup [] #[] rfl (fun j y u hy _=>by simp at hy)))⟩
    rw[zg hdeadi]
    exact hRL
 have h0:aX C S μ (dK (ops.take m) st ks (lsO (Array.replicate ops.toArray.size false))) a w.drew:=by
  have hd:aX C S μ st a w.drew:=hR.grow rfl rfl rfl (Nat.le_refl _) (fun _ _=>rfl) (fun _ h=>h) (fun _ h=>.inl h) hR.slt
  have hf:∀j, (lsO (Array.replicate ops.toArray.size false)).getD j false=false:=by
   intro j
   by_cases hj:j<m
   ·rw[cJ _ m j hj];simp[Array.getD]
   ·exact rZ _ m j (by omega)
  have h1:=hd.weak (env:=(dK (ops.take m) st ks (lsO (Array.replicate ops.toArray.size false))).env) (fun s d hm=>.inr ?_)
  ·refine h1.heapTo (fun j B hB=>?_)
   have hB':(st.heap++dg st.heap.length ks (lsO (Array.replicate ops.toArray.size false)))[j]?=some B:=hB
   by_cases hj:j<st.heap.length
   ·rw[List.getElem?_append_left hj]at hB';exact .inr hB'
   ·rw[List.getElem?_append_right (by omega)]at hB'
    generalize hjj:j-st.heap.length=q at hB'
    have hql:q<ks.length:=by
     have:=(List.getElem?_eq_some_iff.1 hB').1
     rwa [di]at this
    rw[ny _ _ _ _ _ (List.getElem?_eq_getElem hql), hf q, if_neg (by simp)]at hB'
    cases hB'
    exact .inl rfl
  ·rcases List.mem_append.1 hm with hm | hm
   ·exact(jU hm).1
   ·obtain⟨j, oj, kj, q1, q2, q3, q4, rfl⟩:=ga hm
    rw[hf j]at q3;cases q3
 have key:=main m (Array.replicate ops.toArray.size false) (fun _=>undef) S μ a w.drew ?_ h0 (oZ _ _ (by rw[hsz];exact hmn)) (fun i _=>by simp[Array.getD])
 ·rw[show m+(ops.toArray.size-m)=ops.toArray.size from by rw[hsz];omega]at key
  exact wpIn_region_any hmix key
 ·have hf:∀k, (Array.replicate ops.toArray.size false).getD k false=true→False:=by
   intro k hk
   simp[Array.getD]at hk
  exact⟨by simp, fun i o h=>(hf i h).elim, rfl, rfl, fun _ _=>rfl, fun j t h=>(hf j h).elim⟩
theorem Ev.dw {id:Nat} {ops:List Oper} {st:St} {Q:Exit→St→Prop} (ovs:List (Nat×Ov)) (m:Nat) (h:J0 C.P C.nt ops ovs m st (fun st1=>Q .normal st1)):Ev C (.region id ops.toArray true) Q st:=by
 unfold J0 at h
 obtain⟨ancs, ks, hal, hkl, _, _, hK, hmk⟩:=AZ (ops.take m) 0 [] [] rfl rfl h
 simp only[Nat.zero_add]at hal hkl hmk
 cases hb:JZ C.nt ops m&&(jV st st.heap.length 0 ancs ks ancs ks&&kI st.heap.length ancs ks)&&C.P.follows .mixedOrders with
 | false=>rw[hb]at hK;exact hK.elim
 | true =>
 rw[hb]at hK
 simp only[Bool.and_eq_true]at hb
 obtain⟨⟨hdw, hfree, hkillok⟩, hmix⟩:=hb
 unfold JZ at hdw
 simp only[Bool.and_eq_true]at hdw
 obtain⟨⟨⟨⟨hrok, htail⟩, hdst⟩, hdd⟩, hndb⟩:=hdw
 have hmn:m≤ops.length:=by have:=(pA htail).1;simpa using this
 have hsz:ops.toArray.size=ops.length:=by simp
 obtain⟨htp, htq⟩:=tC _ _ _ _ hK
 refine Ev.dwG ovs m (fun _=>false) hmn hal hkl hmk hrok hdst hdd hndb hfree hkillok hmix (fun i hi hil j hj _=>(pA htail).2 i hi (by rw[hsz];exact hil) j (by omega)) ?_
 intro listed S μ a' w hls hcl hRL hall hno
 have hall:∀i, i<m→listed.getD i false=true:=fun i hi=>hall i hi rfl
 have hok:Hv ops.toArray uK a':=yO (zb hrok (by simp[hRL.tsize]) rfl rfl)
 have hu:yL listed m=0:=by
  have:∀n, n≤m→yL listed n=0:=by
   intro n
   induction n with
   | zero=>intro _;rfl
   | succ n ihn=>intro hnm;simp[yL, ihn (by omega), hall n (by omega)]
  exact this m (Nat.le_refl _)
 rw[hu, Nat.zero_add, ← hsz]
 refine xg hok htail (ops.toArray.size-m) m listed a' w (Nat.le_refl _) (by omega) (by rw[hls, hsz]) hall hno ?_
 have el:((List.range m).map fun j=>listed.getD j false)=List.replicate m true:=by
  apply List.ext_getElem
  ·simp
  ·intro j h1 h2
   simp only[List.getElem_map, List.getElem_range, List.getElem_replicate]
   exact hall j (by simpa using h1)
 rw[el]at hRL
 have hl:=qx (Q:=fun e a' w'=>∃st' S' μ', Q e st'∧aX C S' μ' st' a' w') (ops.drop m) m _ S μ _ w _ hRL rfl htp (fun S' μ' a' w' hR'=>⟨_, S', μ', htq, hR'⟩)
 have e:=wpOpsIn_eq_wpListIn (F:=nh C.rd) (n:=0) (P:=C.P) (ops:=ops.toArray) (Q:=fun e a' w'=>∃st' S' μ', Q e st'∧aX C S' μ' st' a' w') (ops.drop m) m (fun j=>by simp)
 rw[List.length_drop]at e
 rw[hsz, e]
 exact hl
theorem Fq {ops:List Oper} {Q:Exit→St→Prop} (ovs:List (Nat×Ov)) (tab:vB) {st':St} (hnd:ops.all (fun o=>!cI o)=true) (he:e7 tab (List.replicate ops.length true)=some st') (hp:DX C.P C.nt ops ovs tab tab) (hq:Q .normal st'):∀(fuel:Nat) (ls:List Bool) (listed:Array Bool) (s:St) (S:Nat→Prop) (μ:Nat→Value) (a:Act) (w:World), gE ls=fuel→ls.length=ops.length→listed.size=ops.length→(∀i, listed.getD i false=ls.getD i false) →
   e7 tab ls=some s→aX C S μ s a w→wpAnyIn (nh C.rd) 0 C.P .any ops.toArray (fun e a' w'=>∃st' S' μ', Q e st'∧aX C S' μ' st' a' w') fuel listed a w:=by
 have hsz:ops.toArray.size=ops.length:=by simp
 intro fuel
 induction fuel with
 | zero =>
  intro ls listed s S μ a w hf hl hls hg hs hR
  have hall:=uE hf
  have hrep:=eC hall
  rw[hl]at hrep
  refine⟨List.eq_nil_iff_forall_not_mem.2 (fun i hi=>?_), ?_⟩
  ·obtain⟨h1, o, ho, _⟩:=(cY listed (by rw[hls, hsz]) i).1 hi
   have hi':i<ops.length:=by simpa using(Array.getElem?_eq_some_iff.1 ho).1
   have hb:(List.replicate ops.length true).getD i false=true:=by simp[List.getD, List.getElem?_replicate, hi']
   rw[hg, hrep, hb]at h1
   cases h1
  ·rw[hrep, he]at hs
   cases hs
   exact⟨_, S, μ, hq, hR⟩
 | succ fuel ih =>
  intro ls listed s S μ a w hf hl hls hg hs hR
  have hent:=uD hp (rV hs)
  have hna:ls.all id=false:=by
   cases hb:ls.all id
   ·rfl
   ·rw[eC hb]at hf
    simp[gE]at hf
  unfold xG at hent
  rw[if_neg (by rw[hna];simp)]at hent
  have hmem:∀i, i∈Region.ready .any ops.toArray listed↔i∈iH ops ls:=by
   intro i
   rw[cY listed (by rw[hls, hsz]) i]
   unfold iH
   rw[List.mem_filter, List.mem_range]
   unfold JT
   constructor
   ·rintro⟨h1, o, ho, h2⟩
    have ho':ops[i]?=some o:=by simpa using ho
    refine⟨(List.getElem?_eq_some_iff.1 ho').1, ?_⟩
    rw[← hg, h1, ho']
    simp only[Bool.not_false, Bool.true_and, List.all_eq_true, Array.mem_toList_iff, Bool.or_eq_true, Bool.not_eq_true']
    intro e he
    cases hb:Region.binds .any e
    ·exact .inl rfl
    ·exact .inr (by rw[← hg];exact h2 e he hb)
   ·rintro⟨h1, h2⟩
    rw[Bool.and_eq_true]at h2
    obtain⟨h2, h3⟩:=h2
    rw[List.getElem?_eq_getElem h1]at h3
    refine⟨by rw[hg];simpa using h2, ops[i], by simp[List.getElem?_eq_getElem h1], fun e he hb=>?_⟩
    simp only[List.all_eq_true, Array.mem_toList_iff, Bool.or_eq_true, Bool.not_eq_true']at h3
    rcases h3 e he with h4 | h4
    ·rw[hb]at h4;cases h4
    ·rw[hg];exact h4
  have hent2:∀i, i∈iH ops ls→wk C.P C.nt ops ovs tab ls s i:=by
   intro i hi
   cases hr:iH ops ls with
   | nil=>rw[hr]at hi;cases hi
   | cons j r =>
    rw[hr]at hent hi
    exact pN hent hi
  refine⟨fun hnil=>?_, fun i hi=>?_⟩
  ·exfalso
   cases hr:iH ops ls with
   | nil=>rw[hr]at hent;exact hent
   | cons j r =>
    have:j∈Region.ready .any ops.toArray listed:=(hmem j).2 (by rw[hr];exact List.mem_cons_self ..)
    rw[hnil]at this
    cases this
  ·have hi2:=(hmem i).1 hi
   have hst:=hent2 i hi2
   obtain⟨hnl, o, ho, _⟩:=(cY listed (by rw[hls, hsz]) i).1 hi
   have ho':ops[i]?=some o:=by simpa using ho
   have hlt:i<ops.length:=(List.getElem?_eq_some_iff.1 ho').1
   unfold wk at hst
   rw[ho']at hst
   simp only at hst
   generalize hsq:c5 C.P C.nt ops ovs i [o] s=q at hst
   obtain⟨s1, p1⟩:=q
   simp only at hst
   split at hst
   ·rename_i s2 hs2
    obtain⟨hk2, hp1⟩:=hst
    have next:∀S' μ' a' w', aX C S' μ' s1 a' w'→wpAnyIn (nh C.rd) 0 C.P .any ops.toArray (fun e a' w'=>∃st' S' μ', Q e st'∧aX C S' μ' st' a' w') fuel (listed.setIfInBounds i true) a' w':=by
     intro S' μ' a' w' hR'
     have hR2:=hR'.keep (s2.env.map (·.1))
     have e2:(⟨mc (s2.env.map (·.1)) s1.env, s1.heap⟩:St)=s2:=hk2
     rw[e2]at hR2
     refine ih (ls.set i true) (listed.setIfInBounds i true) s2 S' μ' a' w' ?_ (by simpa using hl) (by simpa using hls) ?_ hs2 hR2
     ·have:=rX (ls:=ls) (i:=i) (by omega) (by rw[← hg];exact hnl)
      omega
     ·intro j
      rw[aW _ _ _ (by omega)]
      split
      ·rename_i hj
       rw[hj]
       unfold List.getD
       rw[List.getElem?_set_self (show i<ls.length by omega)]
       rfl
      ·rename_i hj
       rw[hg]
       unfold List.getD
       rw[List.getElem?_set_ne (by omega)]
    have hdef:cI o=false:=by
     rw[List.all_eq_true]at hnd
     have:=hnd o (List.mem_of_getElem? ho')
     simpa using this
    unfold c5 at hsq
    unfold wpOpIn
    rw[ho]
    simp only
    split at hsq
    ·rename_i hgd
     rw[if_pos (b8 hR hgd)]
     generalize hq1:pc C.P C.nt (oL ovs i) o s=q1 at hsq
     obtain⟨s1', p1'⟩:=q1
     simp only[c5, Prod.mk.injEq]at hsq
     obtain⟨rfl, rfl⟩:=hsq
     exact tp hdef (mf hR hq1 hp1.1 next)
    ·rename_i hgd
     rw[if_neg (by rw[b8 hR hgd];simp)]
     generalize hq1:mb C.nt s o.dst=q1 at hsq
     obtain⟨s1', p1'⟩:=q1
     simp only[c5, Prod.mk.injEq]at hsq
     obtain⟨rfl, rfl⟩:=hsq
     refine⟨fun f _=>pB C.rd f, ?_⟩
     unfold mb at hq1
     refine next S μ _ _ (hR.ePut hq1 hp1.1 ?_).2
     exact .tup [] #[] rfl (fun j y u hy _=>by simp at hy)
    ·simp only[aQ, Prod.mk.injEq]at hsq
     rw[← hsq.2]at hp1
     exact hp1.elim
   ·exact hst.elim
def Cr (tab:vB) (j:Nat):Bool:=tab.any (fun e=>!(e.1.getD j false))
def A1 (ops:Array Oper) (m:Nat) (late:Nat→Bool):Bool:=decide (m≤ops.size)&&(List.range ops.size).all fun k=>decide (k<m)||(List.range m).all fun j=>late j||cH ops k j
theorem zk {ops:Array Oper} {m:Nat} {late:Nat→Bool} (h:A1 ops m late=true):m≤ops.size∧∀k, m≤k→k<ops.size→∀j, j<m→late j=false→cH ops k j=true:=by
 unfold A1 at h
 simp only[Bool.and_eq_true, decide_eq_true_eq, List.all_eq_true, List.mem_range, Bool.or_eq_true]at h
 exact⟨h.1, fun k hk hkn j hj hl=>((h.2 k hkn).resolve_left (by omega) j hj).resolve_left (by rw[hl];simp)⟩
def pP (late:Nat→Bool):Nat→List (List Bool)
 | 0=>[[]]
 | m+1=>match late m with
  | true=>(pP late m).map (·++[true])++(pP late m).map (·++[false])
  | false=>(pP late m).map (·++[true])
theorem uN {late:Nat→Bool} (f:Nat→Bool):∀(m:Nat), (∀j, j<m→late j=false→f j=true)→(List.range m).map f∈pP late m
 | 0, _=>by simp[pP]
 | m+1, h=>by
  have ih:=uN f m (fun j hj=>h j (by omega))
  rw[List.range_succ, List.map_append, pP]
  split
  ·rename_i hl
   cases hf:f m
   ·exact List.mem_append_right _ (List.mem_map.2 ⟨_, ih, by simp[hf]⟩)
   ·exact List.mem_append_left _ (List.mem_map.2 ⟨_, ih, by simp[hf]⟩)
  ·rename_i hl
   exact List.mem_map.2 ⟨_, ih, by simp[h m (by omega) hl]⟩
def Cs (ops:List Oper) (ls:List Bool):Bool:=(List.range ls.length).all fun i=>!(ls.getD i false)||(match ops[i]? with | some o=>o.after.toList.all (fun e=>!Region.binds .any e||ls.getD e.on false) | none=>true)
def zl (ops:List Oper) (m:Nat) (st:St) (ks:List Mk) (tab:vB):List (List Bool)→Prop
 | []=>True
 | l::r=>match Cs ops l with
  | true=>match e7 tab (l++List.replicate (ops.length-m) false)with
   | some s=>uC (dK (ops.take m) st ks l) s=s∧zl ops m st ks tab r
   | none=>False
  | false=>zl ops m st ks tab r
theorem r6 {ops:List Oper} {m:Nat} {st:St} {ks:List Mk} {tab:vB}:∀{r:List (List Bool)} {l:List Bool}, zl ops m st ks tab r→l∈r→Cs ops l=true→∃s, e7 tab (l++List.replicate (ops.length-m) false)=some s∧uC (dK (ops.take m) st ks l) s=s
 | x::r, l, h, hm, hc=>by
  unfold zl at h
  rcases List.mem_cons.1 hm with e | hm
  ·subst e
   rw[hc]at h
   simp only at h
   split at h
   ·rename_i s hs;exact⟨s, hs, h.1⟩
   ·exact h.elim
  ·split at h
   ·split at h
    ·exact r6 h.2 hm hc
    ·exact h.elim
   ·exact r6 h hm hc
def Fr (nt:Nat) (ops:List Oper) (m:Nat) (late:Nat→Bool):Bool :=
 Jc ops.toArray uK ⟨Array.replicate nt undef, []⟩&&A1 ops.toArray m late&&nz nt (ops.take m)&&wt (ops.take m)&&ops.all (fun o=>!cI o)
def zm (P:Program) (nt:Nat) (ops:List Oper) (ovs:List (Nat×Ov)) (m:Nat) (tab:vB) (st:St) (k:St→Prop):Prop :=
 Hx P ops (ops.take m) st ovs 0 (ops.take m) [] [] fun ancs ks =>
  match Fr nt ops m (Cr tab)&&(jV st st.heap.length 0 ancs ks ancs ks&&kI st.heap.length ancs ks)&&P.follows .mixedOrders, e7 tab (List.replicate ops.length true)with
  | true, some st1=>zl ops m st ks tab (pP (Cr tab) m)∧DX P nt ops ovs tab tab∧nS st1 k
  | _, _=>False
theorem sM (f:Nat→Bool) (listed:Array Bool) (hf:∀j, f j=listed.getD j false):∀m, gE ((List.range m).map f)=yL listed m
 | 0=>rfl
 | m+1=>by
  have ih:=sM f listed hf m
  unfold gE at ih ⊢
  rw[List.range_succ, List.map_append, List.filter_append, List.length_append, ih, yL, ← hf m, List.map_cons, List.map_nil]
  cases f m<;>rfl
theorem DZ (l:List Bool) (n:Nat):gE (l++List.replicate n false)=gE l+n:=by
 unfold gE
 rw[List.filter_append, List.length_append]
 congr 1
 rw[List.filter_eq_self.2 (fun x hx=>by rw[List.eq_of_mem_replicate hx];rfl), List.length_replicate]
theorem Ev.dwT {id:Nat} {ops:List Oper} {st:St} {Q:Exit→St→Prop} (ovs:List (Nat×Ov)) (m:Nat) (tab:vB) (h:zm C.P C.nt ops ovs m tab st (fun st1=>Q .normal st1)):Ev C (.region id ops.toArray true) Q st:=by
 unfold zm at h
 obtain⟨ancs, ks, hal, hkl, _, _, hK, hmk⟩:=AZ (ops.take m) 0 [] [] rfl rfl h
 simp only[Nat.zero_add]at hal hkl hmk
 cases hb:Fr C.nt ops m (Cr tab)&&(jV st st.heap.length 0 ancs ks ancs ks&&kI st.heap.length ancs ks)&&C.P.follows .mixedOrders with
 | false=>rw[hb]at hK;exact hK.elim
 | true =>
 cases he:e7 tab (List.replicate ops.length true)with
 | none=>rw[hb, he]at hK;exact hK.elim
 | some st1 =>
 rw[hb, he]at hK
 simp only[Bool.and_eq_true]at hb
 obtain⟨⟨hdw, hfree, hkillok⟩, hmix⟩:=hb
 unfold Fr at hdw
 simp only[Bool.and_eq_true]at hdw
 obtain⟨⟨⟨⟨hrok, htail⟩, hdst⟩, hdd⟩, hndb⟩:=hdw
 have hsz:ops.toArray.size=ops.length:=by simp
 obtain⟨hmn, htl⟩:=zk htail
 rw[hsz]at hmn
 obtain⟨hj, htab, hend⟩:=hK
 rw[mh]at hend
 refine Ev.dwG ovs m (Cr tab) hmn hal hkl hmk hrok hdst hdd hndb hfree hkillok hmix (fun i hi hil j hj hl=>htl i hi (by rw[hsz];exact hil) j hj hl) ?_
 intro listed S μ a' w hls hcl hRL hall hno
 have hget:∀i, (((List.range m).map fun j=>listed.getD j false)++List.replicate (ops.length-m) false).getD i false=listed.getD i false:=by
  intro i
  by_cases hi:i<m
  ·rw[List.getD_eq_getElem?_getD, List.getElem?_append_left (by simpa using hi), ← List.getD_eq_getElem?_getD]
   exact cJ listed m i hi
  ·rw[List.getD_eq_getElem?_getD, List.getElem?_append_right (by simpa using Nat.le_of_not_lt hi), List.getElem?_replicate, hno i (by omega)]
   split<;>rfl
 have hclos:Cs ops ((List.range m).map fun j=>listed.getD j false)=true:=by
  unfold Cs
  simp only[List.all_eq_true, List.mem_range, List.length_map, List.length_range, Bool.or_eq_true, Bool.not_eq_true']
  intro i hi
  rw[cJ listed m i hi]
  cases hl:listed.getD i false
  ·exact .inl rfl
  ·refine .inr ?_
   split
   ·rename_i o ho
    simp only[List.all_eq_true, Array.mem_toList_iff, Bool.or_eq_true, Bool.not_eq_true']
    intro e hee
    cases hbi:Region.binds .any e
    ·exact .inl rfl
    ·have hon:=hcl i o hl ho e hee hbi
     have:e.on<m:=by
      refine Nat.lt_of_not_le fun hle=>?_
      rw[hno e.on hle]at hon;cases hon
     exact .inr (by rw[cJ listed m _ this];exact hon)
   ·rfl
 obtain⟨s, hs1, hs2⟩:=r6 hj (uN (fun j=>listed.getD j false) m hall) hclos
 have hR2:=hRL.keep (s.env.map (·.1))
 have e2:(⟨mc (s.env.map (·.1)) (dK (ops.take m) st ks ((List.range m).map fun j=>listed.getD j false)).env, (dK (ops.take m) st ks ((List.range m).map fun j=>listed.getD j false)).heap⟩:St)=s:=hs2
 rw[e2]at hR2
 exact Fq (Q:=Q) ovs tab hndb he htab hend _ _ listed s S μ a' w (by rw[DZ, sM _ listed (fun _=>rfl)]) (by simp;omega) hls (fun i=>(hget i).symm) hs1 hR2
theorem D0 {P:Program} {nt:Nat} {ops:List Oper} {ovs:List (Nat×Ov)} {m:Nat} {tab:vB} {st:St} {k k':St→Prop} (h:zm P nt ops ovs m tab st k) (hk:∀st, k st→k' st):zm P nt ops ovs m tab st k':=by
 unfold zm at h ⊢
 refine qA (fun a b hq=>?_) _ _ _ _ h
 split at hq
 ·exact⟨hq.1, hq.2.1, by have:=hq.2.2;rw[mh]at this ⊢;exact hk _ this⟩
 ·exact hq.elim
end
end Go.Proofs.YtckgpflobhpnpaaGreat
