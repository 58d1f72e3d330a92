/-
  The laws of streams, plain data: results, the circuit of the examples.
-/
import Derived.Test.YtckgpflobhpnpaaGreatQStF
namespace Go.Proofs.YtckgpflobhpnpaaGreat
open Go.RowKit
set_option linter.unusedVariables false
set_option linter.unusedSimpArgs false
set_option maxRecDepth 100000
theorem JG (c:Sc):fq c fM=some 1∧gd fM≤3:=by
 constructor
 ·rfl
 ·decide
structure Rs where
 l:List (List Int)
 c:List Int
 e:Int
def tQ (a b:List Int):Bool:=!decide (dP a b<a.length)
def qZ (a b:List (List Int)):Bool:=eK a b&&eK b a
def pU (a b:Rs):Bool:=decide (a.e=b.e)&&(qZ a.l b.l&&decide (a.c=b.c))
def bB (c:Ci) (inp:List (List Int)) (n:Int):Rs:=⟨(fe c inp n).1, (fe c inp n).2.1, (fe c inp n).2.2⟩
def m5 (c:Ci) (inp:List (List Int)) (cls:List ByteArray):Rs:=⟨(ik c inp cls).1, (ik c inp cls).2.1, (ik c inp cls).2.2⟩
section
variable {a b:List Int} {i:Nat}
theorem Af (h2:a.length≤b.length) (h:∀j, j<a.length→a.getD j 0=b.getD j 0):tQ a b=true:=by
 unfold tQ
 rw[tK (Nat.le_refl _) h2 h (by omega), decide_eq_false (Nat.lt_irrefl _)];rfl
theorem pC (hi:i<a.length) (hb:i≤b.length) (h:∀j, j<i→a.getD j 0=b.getD j 0) (h3:¬(i<b.length∧a.getD i 0=b.getD i 0)):tQ a b=false:=by
 unfold tQ
 rw[tK (by omega) hb h (fun q=>h3 q.2), decide_eq_true hi];rfl
theorem JH {x y:List (List Int)} (h:¬eK x y=true):qZ x y=false:=by
 unfold qZ;rw[show eK x y=false by simpa using h];rfl
theorem Ft {x y:List (List Int)} (h:eK x y=true):qZ x y=eK y x:=by unfold qZ;rw[h];rfl
theorem Ag {x y:Rs} (h:¬x.e=y.e):pU x y=false:=by unfold pU;rw[decide_eq_false h];rfl
theorem Ah {x y:Rs} (h:¬qZ x.l y.l=true):pU x y=false:=by unfold pU;rw[show qZ x.l y.l=false by simpa using h];simp
theorem Ai {x y:Rs} (h:x.e=y.e) (h2:qZ x.l y.l=true):pU x y=decide (x.c=y.c):=by unfold pU;rw[decide_eq_true h, h2];rfl
end
def uL (a b:List Int):Bool:=decide (a.length=b.length)&&dG (fun i=>decide (a.getD i 0≤b.getD i 0)) a.length
theorem Aj {a b:List Int} (h:¬a.length=b.length):uL a b=false:=by unfold uL;rw[decide_eq_false h];rfl
theorem Ak {a b:List Int} {i:Nat} (hi:i<a.length) (h:¬a.getD i 0≤b.getD i 0):uL a b=false:=by unfold uL;rw[fI hi (decide_eq_false h), Bool.and_false]
theorem vx {a b:List Int} (h:a.length=b.length) (h2:∀i, i<a.length→decide (a.getD i 0≤b.getD i 0)=true):uL a b=true:=by unfold uL;rw[decide_eq_true h, bL.2 h2];rfl
def O1 (a b:List (List Int)):Nat:=(dX a b).1.toNat
def O2 (a b:List (List Int)):Nat:=(dX a b).2.1.toNat
theorem BN (a b:List (List Int)):(dX a b).1=(O1 a b:Int)∧(dX a b).2.1=(O2 a b:Int):=by
 have h:0≤(dX a b).1∧0≤(dX a b).2.1:=by
  rcases yD (a:=a) (b:=b) (min a.length b.length) 0 with ⟨h1, _⟩ | ⟨j, _, _, h3, _⟩
  ·rw[show dX a b=_ from h1];simp
  ·rw[show dX a b=_ from h3];simp
 exact⟨(Int.toNat_of_nonneg h.1).symm, (Int.toNat_of_nonneg h.2).symm⟩
theorem ra {l:List (List Int)} (h:l.all (fun x=>decide (x.length≤1000))=true) (i:Nat):(l.getD i []).length≤9223372036854775807:=by
 by_cases hi:i<l.length
 ·rw[List.all_eq_true]at h
  have:=h _ (kL (d:=[]) hi)
  simp only[decide_eq_true_eq]at this
  omega
 ·rw[List.getD_eq_getElem?_getD, List.getElem?_eq_none (by omega)];simp
section
variable {c:Ci} {inp:List (List Int)} {n:Int} {cls:List ByteArray}
theorem Fu (c:Ci) (n:Nat):∀(k:Nat) (u:Uf), (JZ c n k u).length≤k
 | 0, u=>by simp[JZ]
 | k+1, u=>by
  unfold JZ
  split
  ·rename_i p _
   have:=Fu c n k (ao c u p)
   simp only[List.length_cons];omega
  ·simp
theorem Li (hc:a8 c) (h:jI c inp) {n:Nat} (hn:n≤100) (k:Nat):((cj c inp n).l k).length≤11000:=by
 have h1:=sD hc k (l:=Dv c inp n) (Dw c inp n).can
 have h2:=Fu c n (n*c.procs.length) (u0 c inp)
 have h3:n*c.procs.length≤100*100:=Nat.mul_le_mul hn hc.nl
 have h4:((u0 c inp).l k).length≤1000:=h.sm k
 unfold cj
 have h5:(Dv c inp n).length≤n*c.procs.length:=h2
 omega
theorem Fv {f:Nat→List Int} {m:Nat} (h:∀k, (f k).length≤11000) (i:Nat):((tab f m).getD i []).length≤9223372036854775807:=by
 by_cases hi:i<m
 ·rw[aC hi];have:=h i;omega
 ·rw[zy (by omega)];simp
theorem tR (hc:a8 c):(bB c inp n).l.length≤9223372036854775807∧(∀i, ((bB c inp n).l.getD i []).length≤9223372036854775807)∧(bB c inp n).c.length≤9223372036854775807:=by
 have h1:=hc.cl
 have h2:=hc.nl
 unfold bB
 by_cases h:ew c inp=true∧0≤n∧n≤100
 ·rw[kV h.1 h.2]
  exact⟨by show(tab _ _).length≤_;rw[aq];omega, Fv (Li hc (en.1 h.1) (by omega)), by show(tab _ _).length≤_;rw[aq];omega⟩
 ·rw[sA h]
  exact⟨by simp, fun i=>by simp, by simp⟩
theorem DK (hc:a8 c):(m5 c inp cls).l.length≤9223372036854775807∧(∀i, ((m5 c inp cls).l.getD i []).length≤9223372036854775807)∧(m5 c inp cls).c.length≤9223372036854775807:=by
 have h1:=hc.cl
 have h2:=hc.nl
 unfold m5
 by_cases h:ew c inp=true∧cls.length≤100
 ·rw[og h.1 h.2]
  have hin:=en.1 h.1
  exact⟨by show(tab _ _).length≤_;rw[aq];omega, Fv (fun k=>by rw[← vu (Nat.le_refl _)];exact DF hc hin h.2 k), by show(tab _ _).length≤_;rw[aq];omega⟩
 ·rw[vo h]
  exact⟨by simp, fun i=>by simp, by simp⟩
end
def Lj:Ex:=⟨6, e0, dN, dN, [⟨16, e0, dN, dN, []⟩, ⟨18, e0, dN, dN, []⟩]⟩
def O3:Pr:=⟨bs [112], bs [97], [⟨bs [114], 2, 0, Lj, MS⟩], [], [⟨0, 2, fM⟩], [⟨1, 2, fM, Lj⟩]⟩
def aH:Ci:=⟨[O3], [⟨bs [105], 2, 0, -1, 0⟩, ⟨bs [111], 2, 0, 0, -1⟩]⟩
set_option maxRecDepth 100000
theorem Lk:gW O3 where
 rl:=by decide
 ml:=by decide
 tl:=by decide
 pl:=by decide
 rw:=fun i hi=>by
  have:i=0:=by have:i<1:=hi;omega
  subst this
  exact⟨rfl, ⟨by decide, by decide⟩, rfl, show gd Lj≤3 by decide⟩
 mw:=fun i hi=>absurd hi (Nat.not_lt_zero _)
 tw:=fun i hi=>by
  have:i=0:=by have:i<1:=hi;omega
  subst this
  exact⟨rfl, JG _⟩
 pw:=fun i hi=>by
  have:i=0:=by have:i<1:=hi;omega
  subst this
  exact⟨rfl, JG _, rfl, show gd Lj≤3 by decide⟩
theorem cR:a8 aH:=by
 have h2:aH.procs.length=1:=rfl
 have h3:aH.chans.length=2:=rfl
 have c2:∀i, i<2→i=0∨i=1:=fun i hi=>by omega
 refine⟨by decide, by decide, by decide, fun i hi=>?_, fun i hi j hj=>?_, fun i hi j hj=>?_, fun i hi j k hj hk _=>?_, fun i hi j k hj hk _=>?_, fun n hn=>?_, fun n hn=>?_⟩
 ·rw[h2]at hi
  have:i=0:=by omega
  subst this;exact Lk
 ·have:i=0:=by rw[h2]at hi;omega
  subst this
  have:j=0:=by have:j<1:=hj;omega
  subst this;decide
 ·have:i=0:=by rw[h2]at hi;omega
  subst this
  have:j=0:=by have:j<1:=hj;omega
  subst this;decide
 ·have:i=0:=by rw[h2]at hi;omega
  subst this
  have:j<1:=hj
  have:k<1:=hk
  omega
 ·have:i=0:=by rw[h2]at hi;omega
  subst this
  have:j<1:=hj
  have:k<1:=hk
  omega
 ·rw[h3]at hn
  rcases c2 n hn with rfl | rfl<;>decide
 ·rw[h3]at hn
  rcases c2 n hn with rfl | rfl<;>decide
theorem oA:L6 aH:=fun p hp=>by
 have:p=0:=by have:p<1:=hp;omega
 subst this;decide
theorem QG:fe aH [[1, 2, 2], []] 100=([[1, 2, 2], [1, 3, 1]], [3], 0):=by decide
theorem QH:fe aH [[1, 2, 2], []] 2=([[1, 2, 2], [1, 3]], [2], 0):=by decide
def wT (q:Nat):Bool:=decide (q=0)
theorem L7:ig (br aH (bs [97])) 1=ig wT 1:=funext fun q=>by
 unfold ig br wT
 by_cases h:q<1
 ·have:q=0:=by omega
  subst this
  rw[show(bj aH 0).clock=bs [97]from rfl]
  simp
 ·simp[h]
theorem O4 {s:Ns} (hs:fa aH s):bf aH s (br aH (bs [97]))=bf aH s wT:=by
 have e:aH.procs.length=1:=rfl
 rw[zE hs, e, L7, ← e, ← zE hs]
theorem L8 (s:Ns):kk aH s (br aH (bs [97])) aH.procs.length=kk aH s wT aH.procs.length:=by
 unfold kk
 refine List.filter_congr fun q hq=>?_
 have:q=0:=by have:q<1:=List.mem_range.1 hq;omega
 subst this
 have:=congrFun L7 0
 unfold ig at this
 have h2:br aH (bs [97]) 0=wT 0:=by simpa using this
 unfold ax
 rw[h2]
theorem O5 {s:Ns} (hs:fa aH s):ij aH s [br aH (bs [97]), br aH (bs [97])]=ij aH s [wT, wT]:=by
 simp only[ij]
 rw[L8, O4 hs, L8]
theorem L9:jI aH [[1, 2, 2], []]:=en.1 (by decide)
theorem QI:ik aH [[1, 2, 2], []] [bs [97], bs [97]]=([[1, 2, 2], [1, 3]], [2], 0):=by
 rw[og (en.2 L9) (by decide)]
 have h:Dz aH [[1, 2, 2], []] [bs [97], bs [97]]=b9 aH (u0 aH [[1, 2, 2], []]) (ij aH (dg aH [[1, 2, 2], []]) [wT, wT]):=by
  rw[← O5 (BB cR L9)];rfl
 rw[h]
 decide
theorem QJ:(fe aH [[4], []] 1).2.2=1:=by decide
theorem QK:(fe aH [[1, 2, 2], []] 101).2.2=1:=by decide
end Go.Proofs.YtckgpflobhpnpaaGreat
