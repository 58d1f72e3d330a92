/-
  The laws of streams, plain data: results, the circuit of the examples.
-/
import Derived.Test.YtckgpflobhpnpaaGreatQStF
namespace Go.Proofs.YtckgpflobhpnpaaGreat
open Go.RowKit
set_option linter.unusedVariables false
set_option linter.unusedSimpArgs false
set_option maxRecDepth 100000
theorem Hi (c:Sc):e9 c fu=some 1∧fS fu≤3:=by
 constructor
 ·rfl
 ·decide
structure Rs where
 l:List (List Int)
 c:List Int
 e:Int
def sD (a b:List Int):Bool:=!decide (dm a b<a.length)
def qb (a b:List (List Int)):Bool:=fc a b&&fc b a
def lq (a b:Rs):Bool:=decide (a.e=b.e)&&(qb a.l b.l&&decide (a.c=b.c))
def dG (c:Ci) (inp:List (List Int)) (n:Int):Rs:=⟨(eR c inp n).1, (eR c inp n).2.1, (eR c inp n).2.2⟩
def lR (c:Ci) (inp:List (List Int)) (cls:List ByteArray):Rs:=⟨(gV c inp cls).1, (gV c inp cls).2.1, (gV c inp cls).2.2⟩
section
variable {a b:List Int} {i:Nat}
theorem yB (h2:a.length≤b.length) (h:∀j, j<a.length→a.getD j 0=b.getD j 0):sD a b=true:=by
 unfold sD
 rw[sx (Nat.le_refl _) h2 h (by omega), decide_eq_false (Nat.lt_irrefl _)];rfl
theorem oz (hi:i<a.length) (hb:i≤b.length) (h:∀j, j<i→a.getD j 0=b.getD j 0) (h3:¬(i<b.length∧a.getD i 0=b.getD i 0)):sD a b=false:=by
 unfold sD
 rw[sx (by omega) hb h (fun q=>h3 q.2), decide_eq_true hi];rfl
theorem Hj {x y:List (List Int)} (h:¬fc x y=true):qb x y=false:=by
 unfold qb;rw[show fc x y=false by simpa using h];rfl
theorem yC {x y:List (List Int)} (h:fc x y=true):qb x y=fc y x:=by unfold qb;rw[h];rfl
theorem yD {x y:Rs} (h:¬x.e=y.e):lq x y=false:=by unfold lq;rw[decide_eq_false h];rfl
theorem yE {x y:Rs} (h:¬qb x.l y.l=true):lq x y=false:=by unfold lq;rw[show qb x.l y.l=false by simpa using h];simp
theorem tX {x y:Rs} (h:x.e=y.e) (h2:qb x.l y.l=true):lq x y=decide (x.c=y.c):=by unfold lq;rw[decide_eq_true h, h2];rfl
end
def Mv (a b:List (List Int)):Nat:=(du a b).1.toNat
def Mw (a b:List (List Int)):Nat:=(du a b).2.1.toNat
theorem Aa (a b:List (List Int)):(du a b).1=(Mv a b:Int)∧(du a b).2.1=(Mw a b:Int):=by
 have h:0≤(du a b).1∧0≤(du a b).2.1:=by
  rcases wZ (a:=a) (b:=b) (min a.length b.length) 0 with ⟨h1, _⟩ | ⟨j, _, _, h3, _⟩
  ·rw[show du a b=_ from h1];simp
  ·rw[show du a b=_ from h3];simp
 exact⟨(Int.toNat_of_nonneg h.1).symm, (Int.toNat_of_nonneg h.2).symm⟩
theorem qc {l:List (List Int)} (h:l.all (fun x=>decide (x.length≤1000))=true) (i:Nat):(l.getD i []).length≤9223372036854775807:=by
 by_cases hi:i<l.length
 ·rw[List.all_eq_true]at h
  have:=h _ (j8 (d:=[]) hi)
  simp only[decide_eq_true_eq]at this
  omega
 ·rw[List.getD_eq_getElem?_getD, List.getElem?_eq_none (by omega)];simp
section
variable {c:Ci} {inp:List (List Int)} {n:Int} {cls:List ByteArray}
theorem Ds (c:Ci) (n:Nat):∀(k:Nat) (u:Uf), (HA c n k u).length≤k
 | 0, u=>by simp[HA]
 | k+1, u=>by
  unfold HA
  split
  ·rename_i p _
   have:=Ds c n k (aj c u p)
   simp only[List.length_cons];omega
  ·simp
theorem IZ (hc:a6 c) (h:oX c inp) {n:Nat} (hn:n≤100) (k:Nat):((dk c inp n).l k).length≤11000:=by
 have h1:=rn hc k (l:=ED c inp n) (GN c inp n).can
 have h2:=Ds c n (n*c.procs.length) (u0 c inp)
 have h3:n*c.procs.length≤100*100:=Nat.mul_le_mul hn hc.nl
 have h4:((u0 c inp).l k).length≤1000:=h.sm k
 unfold dk
 have h5:(ED c inp n).length≤n*c.procs.length:=h2
 omega
theorem Dt {f:Nat→List Int} {m:Nat} (h:∀k, (f k).length≤11000) (i:Nat):((tab f m).getD i []).length≤9223372036854775807:=by
 by_cases hi:i<m
 ·rw[aE hi];have:=h i;omega
 ·rw[xV (by omega)];simp
theorem gY (hc:a6 c):(dG c inp n).l.length≤9223372036854775807∧(∀i, ((dG c inp n).l.getD i []).length≤9223372036854775807)∧(dG c inp n).c.length≤9223372036854775807:=by
 have h1:=hc.cl
 have h2:=hc.nl
 unfold dG
 by_cases h:d4 c inp=true∧0≤n∧n≤100
 ·rw[kg h.1 h.2]
  exact⟨by show(tab _ _).length≤_;rw[ao];omega, Dt (IZ hc (dP.1 h.1) (by omega)), by show(tab _ _).length≤_;rw[ao];omega⟩
 ·rw[rk h]
  exact⟨by simp, fun i=>by simp, by simp⟩
theorem BO (hc:a6 c):(lR c inp cls).l.length≤9223372036854775807∧(∀i, ((lR c inp cls).l.getD i []).length≤9223372036854775807)∧(lR c inp cls).c.length≤9223372036854775807:=by
 have h1:=hc.cl
 have h2:=hc.nl
 unfold lR
 by_cases h:d4 c inp=true∧cls.length≤100
 ·rw[mU h.1 h.2]
  have hin:=dP.1 h.1
  exact⟨by show(tab _ _).length≤_;rw[ao];omega, Dt (fun k=>by rw[← tV (Nat.le_refl _)];exact BG hc hin h.2 k), by show(tab _ _).length≤_;rw[ao];omega⟩
 ·rw[tR h]
  exact⟨by simp, fun i=>by simp, by simp⟩
end
def I0:Ex:=⟨6, e0, dN, dN, [⟨16, e0, dN, dN, []⟩, ⟨18, e0, dN, dN, []⟩]⟩
def Mx:Pr:=⟨bs [112], bs [97], [⟨bs [114], 2, 0, I0, Ko⟩], [], [⟨0, 2, fu⟩], [⟨1, 2, fu, I0⟩]⟩
def aH:Ci:=⟨[Mx], [⟨bs [105], 2, 0, -1, 0⟩, ⟨bs [111], 2, 0, 0, -1⟩]⟩
set_option maxRecDepth 100000
theorem I1:fq Mx where
 rl:=by decide
 ml:=by decide
 tl:=by decide
 pl:=by decide
 rw:=fun i hi=>by
  have:i=0:=by have:i<1:=hi;omega
  subst this
  exact⟨rfl, ⟨by decide, by decide⟩, rfl, show fS I0≤3 by decide⟩
 mw:=fun i hi=>absurd hi (Nat.not_lt_zero _)
 tw:=fun i hi=>by
  have:i=0:=by have:i<1:=hi;omega
  subst this
  exact⟨rfl, Hi _⟩
 pw:=fun i hi=>by
  have:i=0:=by have:i<1:=hi;omega
  subst this
  exact⟨rfl, Hi _, rfl, show fS I0≤3 by decide⟩
theorem cA:a6 aH:=by
 have h2:aH.procs.length=1:=rfl
 have h3:aH.chans.length=2:=rfl
 have c2:∀i, i<2→i=0∨i=1:=fun i hi=>by omega
 refine⟨by decide, by decide, by decide, fun i hi=>?_, fun i hi j hj=>?_, fun i hi j hj=>?_, fun i hi j k hj hk _=>?_, fun i hi j k hj hk _=>?_, fun n hn=>?_, fun n hn=>?_⟩
 ·rw[h2]at hi
  have:i=0:=by omega
  subst this;exact I1
 ·have:i=0:=by rw[h2]at hi;omega
  subst this
  have:j=0:=by have:j<1:=hj;omega
  subst this;decide
 ·have:i=0:=by rw[h2]at hi;omega
  subst this
  have:j=0:=by have:j<1:=hj;omega
  subst this;decide
 ·have:i=0:=by rw[h2]at hi;omega
  subst this
  have:j<1:=hj
  have:k<1:=hk
  omega
 ·have:i=0:=by rw[h2]at hi;omega
  subst this
  have:j<1:=hj
  have:k<1:=hk
  omega
 ·rw[h3]at hn
  rcases c2 n hn with rfl | rfl<;>decide
 ·rw[h3]at hn
  rcases c2 n hn with rfl | rfl<;>decide
theorem nd:JD aH:=fun p hp=>by
 have:p=0:=by have:p<1:=hp;omega
 subst this;decide
theorem N8:eR aH [[1, 2, 2], []] 100=([[1, 2, 2], [1, 3, 1]], [3], 0):=by decide
theorem N9:eR aH [[1, 2, 2], []] 2=([[1, 2, 2], [1, 3]], [2], 0):=by decide
def wT (q:Nat):Bool:=decide (q=0)
theorem JF:gQ (bh aH (bs [97])) 1=gQ wT 1:=funext fun q=>by
 unfold gQ bh wT
 by_cases h:q<1
 ·have:q=0:=by omega
  subst this
  rw[show(bc aH 0).clock=bs [97]from rfl]
  simp
 ·simp[h]
theorem My {s:Ns} (hs:j6 aH s):bD aH s (bh aH (bs [97]))=bD aH s wT:=by
 have e:aH.procs.length=1:=rfl
 rw[x5 hs, e, JF, ← e, ← x5 hs]
theorem JG (s:Ns):jJ aH s (bh aH (bs [97])) aH.procs.length=jJ aH s wT aH.procs.length:=by
 unfold jJ
 refine List.filter_congr fun q hq=>?_
 have:q=0:=by have:q<1:=List.mem_range.1 hq;omega
 subst this
 have:=congrFun JF 0
 unfold gQ at this
 have h2:bh aH (bs [97]) 0=wT 0:=by simpa using this
 unfold aA
 rw[h2]
theorem Mz {s:Ns} (hs:j6 aH s):gU aH s [bh aH (bs [97]), bh aH (bs [97])]=gU aH s [wT, wT]:=by
 simp only[gU]
 rw[JG, My hs, JG]
theorem JH:oX aH [[1, 2, 2], []]:=dP.1 (by decide)
theorem Oa:gV aH [[1, 2, 2], []] [bs [97], bs [97]]=([[1, 2, 2], [1, 3]], [2], 0):=by
 rw[mU (dP.2 JH) (by decide)]
 have h:BA aH [[1, 2, 2], []] [bs [97], bs [97]]=cm aH (u0 aH [[1, 2, 2], []]) (gU aH (HB aH [[1, 2, 2], []]) [wT, wT]):=by
  rw[← Mz (Jz cA JH)];rfl
 rw[h]
 decide
theorem Ob:(eR aH [[4], []] 1).2.2=1:=by decide
theorem Oc:(eR aH [[1, 2, 2], []] 101).2.2=1:=by decide
end Go.Proofs.YtckgpflobhpnpaaGreat
