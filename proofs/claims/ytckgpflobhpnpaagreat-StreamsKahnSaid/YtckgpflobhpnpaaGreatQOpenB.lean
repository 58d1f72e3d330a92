/-
  What a row's reading of an argument says to the walks on pure data: slices of slices. Over any program.
-/
import Derived.Test.YtckgpflobhpnpaaGreatQRep
import Derived.ProofKit
import Derived.OpenShut
import Derived.ShutString
import Derived.ChangeOld
import Derived.Test.YtckgpflobhpnpaaGreatQKb
namespace Go.Proofs.YtckgpflobhpnpaaGreat
open Go.ChangeShapes Go.WideShapes Go.ChangeAt Go.RowKit
set_option linter.unusedVariables false
set_option linter.unusedSimpArgs false
section
variable {H:Type} {enc:TypeId×Value→H} {P:Program} {W:World}
theorem EN {α:Type} {S:Nat→Prop} {t e:TypeId} {enc':α→List V} {d0:α} {good:α→Prop} {fuel:Nat} {cs:List Value} {x:DataW H×List MemPlace} (ht:P.underlying t=some (.slice e)) (hc:P.cellsOf e=1) (hS:∀b, b<W.heap.size→S b)
  (he:∀fuel cs y, DataW.trod enc P W 0 (fun _=>true) true fuel e cs=some y→∃v a y0, cs=[v]∧good a∧enc' a=[y0]∧de S W y0 v) (h:DataW.trod enc P W 0 (fun _=>true) true fuel t cs=some x) :
  ∃v l, cs=[v]∧(∀a∈l, good a)∧l.length≤maxLen∧de S W (.sl 1 enc' d0 l) v:=by
 rcases DataW.trod_slice ht h with ⟨rfl, _⟩ | ⟨a, len, cap, elems, rest, n, _, rfl, rfl, _, hl, hm, hlen, hel, _, _⟩
 ·exact⟨_, [], rfl, fun a ha=>by simp at ha, by simp, .nil _ _ _ _ _ (by omega) (fun _=>rfl)⟩
 by_cases h0:len=0
 ·subst h0
  exact⟨_, [], rfl, fun a ha=>by simp at ha, by simp, .nil _ _ _ _ _ hm (fun h=>by cases h)⟩
 have each:∀i, ∃a':α, i<len→∃v y0, W.cell? (a.add i)=some v∧good a'∧enc' a'=[y0]∧de S W y0 v:=by
  intro i
  by_cases hi:i<len
  ·have h1:=hel i hi
   rw[List.getElem?_eq_getElem (by omega), hc, Nat.mul_one, Option.bind_eq_some_iff]at h1
   obtain⟨cs', hcs, hy⟩:=h1
   obtain⟨v, a', y0, rfl, g1, g2, g3⟩:=he _ _ _ hy
   exact⟨a', fun _=>⟨v, y0, cell_of_cells?_one hcs, g1, g2, g3⟩⟩
  ·exact⟨d0, fun h=>(hi h).elim⟩
 obtain⟨f, hf⟩:=Classical.axiomOfChoice each
 obtain⟨b, off, spot⟩:=a
 obtain⟨v0, _, h00, _⟩:=hf 0 (by omega)
 have hspot:spot=none:=by simpa[Addr.add]using World.cell?_spot h00
 subst hspot
 have hadd:∀i, (⟨b, off, none⟩:Addr).add i=⟨b, off+i, none⟩:=fun i=>by unfold Addr.add;split<;>simp_all
 have hb:b<W.heap.size:=by
  have:=h00
  unfold World.cell? at this
  simp only[Addr.add, if_true]at this
  split at this
  ·rename_i hb
   exact(Array.getElem?_eq_some_iff.1 hb).1
  ·cases this
 have hget:∀(i:Nat) (x:α), ((List.range len).map f)[i]?=some x→i<len∧x=f i:=by
  intro i x hx
  simp only[List.getElem?_map, Option.map_eq_some_iff]at hx
  obtain⟨j, hj, rfl⟩:=hx
  obtain⟨h1, h2⟩:=List.getElem?_eq_some_iff.1 hj
  simp at h1 h2
  exact⟨h1, by rw[h2]⟩
 refine⟨_, (List.range len).map f, rfl, ?_, by simp;omega, .row 1 enc' d0 _ b off cap len (fun i _=>(W.cell? ⟨b, off+i, none⟩).getD undef) (hS b hb) hb (by simp) hl hm ?_ ?_ ?_⟩
 ·intro a' ha
  obtain⟨i, hi⟩:=List.getElem?_of_mem ha
  obtain⟨h1, rfl⟩:=hget i a' hi
  obtain⟨_, _, _, g, _⟩:=hf i h1
  exact g
 ·intro i x hx
  obtain⟨h1, rfl⟩:=hget i x hx
  obtain⟨_, _, _, _, g, _⟩:=hf i h1
  rw[g];rfl
 ·intro i x j y hx hy
  obtain⟨h1, rfl⟩:=hget i x hx
  obtain⟨v, y0, g0, _, g, g2⟩:=hf i h1
  rw[g]at hy
  have hj:j=0:=by
   cases j with
   | zero=>rfl
   | succ j=>simp at hy
  subst hj
  rw[hadd]at g0
  rw[Nat.mul_one, Nat.add_zero, g0]
  rfl
 ·intro i x j y hx hy
  obtain⟨h1, rfl⟩:=hget i x hx
  obtain⟨v, y0, g0, _, g, g2⟩:=hf i h1
  rw[g]at hy
  have hj:j=0:=by
   cases j with
   | zero=>rfl
   | succ j=>simp at hy
  subst hj
  simp only[List.getElem?_cons_zero, Option.some.injEq]at hy
  subst hy
  rw[hadd]at g0
  simp only[g0, Option.getD_some]
  exact g2
theorem s8 {S:Nat→Prop} {t e:TypeId} {k:IntKind} {fuel:Nat} {cs:List Value} {x:DataW H×List MemPlace} (ht:P.underlying t=some (.slice e)) (he:P.underlying e=some (.int k)) (hc:P.cellsOf e=1) (hS:∀b, b<W.heap.size→S b)
  (h:DataW.trod enc P W 0 (fun _=>true) true fuel t cs=some x):∃v l, cs=[v]∧(∀n∈l, EM k n)∧l.length≤maxLen∧de S W (.sl 1 (ab k) 0 l) v :=
 EN ht hc hS (fun fuel cs y hy=>by
  obtain⟨n, e1, _, e3⟩:=DataW.trod_int he hy
  exact⟨_, n, _, e1, e3, rfl, .int _ _⟩) h
theorem kv {S:Nat→Prop} {r:Reach} {base:Nat} {t e:TypeId} {k:IntKind} {v:Value} {d:DataW H} {p:List MemPlace} (ht:P.underlying t=some (.slice e)) (he:P.underlying e=some (.int k)) (hc:P.cellsOf e=1) (hS:∀b, b<W.heap.size→S b)
  (hv:Value.okWide P W r base t v) (h:DataW.Trod enc P W 0 (fun _=>true) true t v d p):∃l, (∀n∈l, EM k n)∧l.length≤maxLen∧de S W (.sl 1 (ab k) 0 l) v:=by
 obtain⟨a0, len, cap, rfl⟩:=okWide_slice ht hv
 obtain⟨fuel, hf⟩:=h
 obtain⟨v, l, e1, h1, h2, h3⟩:=s8 ht he hc hS hf
 simp only[Value.cells, List.cons.injEq, and_true]at e1
 subst e1
 exact⟨l, h1, h2, h3⟩
theorem BR {f:FuncId} {ys:List D} {al b:Bool} (h:ai P f ys [] al (dB b) []) (us:Array Value) (W:World) (hr:aM (fun b=>b<W.heap.size) (fun _=>undef) W ys us) :
  Calls P f us W (fun e W'=>e=.returned (.bool b)∧Below W.heap.size W W'):=by
 refine(h (fun b=>b<W.heap.size) (fun _=>undef) W us (fun _ h=>h) ⟨fun id B hB=>by simp at hB, fun i j A B b hA=>by simp at hA, fun i A b hA=>by simp at hA⟩ hr).mono ?_
 rintro e w' ⟨u, μ', S', rfl, h1, h2, h3, h4, h5, _, _, _, h9, _⟩
 refine⟨?_, ⟨h1, h2, h3, h4, fun k hk=>h5 k hk (fun i A hA=>by simp at hA)⟩⟩
 rw[ff h9]
theorem vz {x:Int} (h:EM .u8 x):0≤x∧x<256:=by
 have h1:IntKind.u8.min≤x∧x≤IntKind.u8.max:=by simpa[EM, Lit.wf]using h
 have h2:IntKind.u8.min=0:=rfl
 have h3:IntKind.u8.max=255:=rfl
 omega
theorem Hu {t:TypeId} {fs:Array Field} {fuel:Nat} {cs:List Value} {x:DataW H×List MemPlace} (ht:P.underlying t=some (.struct fs)) (h:DataW.trod enc P W 0 (fun _=>true) true fuel t cs=some x) :
  ∃n, ∀(i:Nat) (f:Field), fs[i]?=some f→∃y, DataW.trod enc P W 0 (fun _=>true) true n f.type ((cs.drop f.offset).take (P.cellsOf f.type))=some y:=by
 obtain⟨xs, n, _, _, _, hlen, hf⟩:=DataW.trod_struct ht h
 refine⟨n, fun i f hi=>?_⟩
 have h1:=hf i f hi
 have h2:=(Array.getElem?_eq_some_iff.1 hi).1
 rw[List.getElem?_eq_getElem (by omega)]at h1
 exact⟨_, h1⟩
theorem vP {r:Reach} {base:Nat} {t:TypeId} {fs:Array Field} {v:Value} {m:Nat} (ht:P.underlying t=some (.struct fs)) (hm:P.cellsOf t=m) (hv:Value.okWide P W r base t v):∃cs:List Value, v=.agg cs.toArray∧cs.length=m:=by
 unfold Value.okWide at hv
 rw[ht]at hv
 obtain⟨cs, rfl, hs, _⟩:=hv
 exact⟨cs.toList, by simp, by simp[hs, hm]⟩
def yK (S:Nat→Prop) (μ:Nat→Value) (w:World):List D→List Value→Prop
 | [], []=>True
 | d::ds, u::us=>ak S μ w d u∧yK S μ w ds us
 | _, _=>False
theorem yK.at {S:Nat→Prop} {μ:Nat→Value} {w:World}:∀{ds:List D} {us:List Value}, yK S μ w ds us→us.length=ds.length∧∀(j:Nat) (y:D) (u:Value), ds[j]?=some y→us[j]?=some u→ak S μ w y u
 | [], [], _=>⟨rfl, fun j y u hy=>by simp at hy⟩
 | d::ds, u::us, h=>by
  obtain⟨h1, h2⟩:=h.2.at
  refine⟨by simp[h1], fun j y z hy hz=>?_⟩
  match j with
  | 0=>simp at hy hz;subst hy hz;exact h.1
  | j+1=>exact h2 j y z (by simpa using hy) (by simpa using hz)
 | [], _::_, h=>h.elim
 | _::_, [], h=>h.elim
theorem Jb {S:Nat→Prop} {μ:Nat→Value} {w:World} {ds:List D} {us:List Value} (h:yK S μ w ds us):ak S μ w (.agg ds) (.agg us.toArray) :=
 .agg _ _ (by simpa using h.at.1) (fun j y u hy hu=>h.at.2 j y u hy (by simpa using hu))
theorem Ll {S:Nat→Prop} {μ:Nat→Value} {w:World} {x y q:D} {u v t:Value} (h:ak S μ w x u) (k:ak S μ w y v) (m:ak S μ w q t):aM S μ w [x, y, q] #[u, v, t]:=⟨rfl, fun j y z hy hz=>by
 match j with
 | 0=>simp at hy hz;subst hy hz;exact h
 | 1=>simp at hy hz;subst hy hz;exact k
 | 2=>simp at hy hz;subst hy hz;exact m
 | j+3=>simp at hy⟩
end
end Go.Proofs.YtckgpflobhpnpaaGreat
