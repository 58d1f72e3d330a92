/-
  slices.Grow of no slice: a row of the call's own, of length 0.
-/
import Derived.Test.YtckgpflobhpnpaaGreatQNeC
import Derived.Test.YtckgpflobhpnpaaGreatQPrT
namespace Go.Proofs.YtckgpflobhpnpaaGreat
open Go.RowKit
set_option linter.unusedVariables false
set_option linter.unusedSimpArgs false
section
variable {c:Ci} {s e:Ns} {w:Nat→Bool}
theorem IG (hc:a6 c) {p:Nat} (hp:p<c.procs.length) (h1:gg c s p=true) (hw:w p=false):gg c (bD c s w) p=true:=by
 unfold gg;rw[(u9 hc hp h1 hw).1];exact h1
def gQ (w:Nat→Bool) (P:Nat):Nat→Bool:=fun q=>w q&&decide (q<P)
theorem x5 (hs:j6 c s):bD c s w=bD c s (gQ w c.procs.length):=by
 have h1:∀q, q<c.procs.length→aA c s w q=aA c s (gQ w c.procs.length) q:=fun q hq=>by unfold aA gQ;simp[hq]
 have e1:tab (cO c s w) c.procs.length=tab (cO c s (gQ w c.procs.length)) c.procs.length:=iq (fun q hq=>by unfold cO;rw[h1 q hq])
 have e2:tab (dY c s w) c.chans.length=tab (dY c s (gQ w c.procs.length)) c.chans.length:=iq (fun n hn=>by
  unfold dY
  have g1:dX c s w n=dX c s (gQ w c.procs.length) n:=by
   unfold dX
   by_cases hd:gP c n<c.procs.length
   ·rw[h1 _ hd]
   ·rw[zI (by omega)];simp
  have g2:cN c s w n=cN c s (gQ w c.procs.length) n:=by
   unfold cN
   by_cases hd:eO c n<c.procs.length
   ·rw[h1 _ hd]
   ·rw[mL hd];simp
  rw[g1, g2])
 unfold bD;rw[e1, e2]
end
def mN (f:Nat→Bool):Nat→Int
 | 0=>-1
 | n+1=>if dF (fun i=>!f i) n=true then (if f n=true then n else -1)else mN f n
theorem pX {f:Nat→Bool} {i:Nat} (hf:f i=true) (h:∀z, z<i→f z=false):∀{n:Nat}, i<n→mN f n=i
 | 0, h0=>absurd h0 (Nat.not_lt_zero _)
 | n+1, h0=>by
  rw[mN]
  by_cases e:i=n
  ·subst e
   rw[if_pos (cf.2 (fun z hz=>by rw[h z hz];rfl)), if_pos hf]
  ·rw[if_neg (by rw[kQ (show i<n by omega) (by simp[hf])];simp), pX hf h (by omega)]
theorem wR {f:Nat→Bool}:∀{n:Nat}, (∀z, z<n→f z=false)→mN f n=-1
 | 0, _=>rfl
 | n+1, h=>by
  rw[mN, if_pos (cf.2 (fun z hz=>by rw[h z (by omega)];rfl)), if_neg (by rw[h n (by omega)];simp)]
theorem vd {f:Nat→Bool}:∀{n:Nat}, decide (0≤mN f n)=!(dF (fun i=>!f i) n)
 | 0=>rfl
 | n+1=>by
  rw[mN]
  split
  ·rename_i h1
   rw[dF, h1]
   split
   ·rename_i h2;simp[h2]
   ·rename_i h2;simp[h2]
  ·rename_i h1
   rw[vd, dF]
   simp only[Bool.not_eq_true]at h1
   rw[h1];rfl
def th (l:List Int) (w:Int):Int:=mN (fun i=>!dQ (l.getD i 0) w) l.length
theorem wS {l:List Int} {w:Int}:(!decide (0≤th l w))=zE l w:=by
 unfold th zE
 rw[vd, Bool.not_not]
 exact congrArg (dF · _) (funext fun i=>by rw[Bool.not_not])
theorem wU {ls:List (List Int)} {i:Nat} (h:i<ls.length):(ls.take (i+1)).flatten=(ls.take i).flatten++ls.getD i []:=by
 rw[List.take_succ_eq_append_getElem h, List.flatten_append]
 simp[List.getD, List.getElem?_eq_getElem h]
theorem x6 {ls:List (List Int)} {i:Nat}:(ls.take i).flatten.length≤ls.flatten.length:=by
 conv=>rhs;rw[← List.take_append_drop i ls, List.flatten_append, List.length_append]
 omega
theorem Gm {ls:List (List Int)} {i:Nat} (h:ls.length≤i):(ls.take i).flatten=ls.flatten:=by rw[List.take_of_length_le h]
def gi (c:Ci):Ns:=⟨tab (fun i=>aI (bc c i)) c.procs.length, List.replicate c.chans.length []⟩
theorem Gn {c:Ci} {s:Ns} {p m:Nat} (h:(fT c (vL (bc c p) m)).dst=-1):cU c s p m=true:=by unfold cU;rw[decide_eq_true h];rfl
theorem x7 {c:Ci} {s:Ns} {p m:Nat} (h:¬(fT c (vL (bc c p) m)).dst=-1):cU c s p m=decide (((xY s (vL (bc c p) m)).length:Int)<(fT c (vL (bc c p) m)).cap):=by unfold cU;rw[decide_eq_false h];rfl
def M3 (s:Ns) (k:Nat):Prop:=∀n, (xY s n).length≤k
theorem ai.of_empty {P:Program} {f:FuncId} {ar:List D} {E sz:Nat} {α:Type} {enc:α→List V} {d:α}
  (h:∀(S:Nat→Prop) (μ:Nat→Value) (w:World) (us:Array Value), aM S μ w ar us→Calls P f us w (fun e w'=>∃v, e=.returned v∧w'.ownsRow 0 E sz v 0 []∧w.grownBy w' none∧∀b, aG v=some b→w.heap.size≤b)) :
  ai P f ar [] false (.own 0) [.arr E sz enc d []]:=by
 intro S μ w us hS _ hus
 refine(h S μ w us hus).mono ?_
 rintro e w' ⟨v, rfl, ho, hg, hb0⟩
 have hv1:v.oneCell'=true:=by rcases ho.2 with ⟨rfl, _⟩ | ⟨g, cap, cur, rfl, _⟩<;>rfl
 have hb:∀b, bE v b→w.heap.size≤b:=fun b h=>hb0 b (h.bl hv1)
 have hB:aJ S (fun _=>v) w' v (.arr E sz enc d []):=⟨fun i x hx=>by simp at hx, [], by simpa using ho, fun i x j y hx=>by simp at hx⟩
 refine⟨v, fun _=>v, S, rfl, hg.os, hg.tape, hg.output, hg.size, fun k hk _=>hg.block k hk (by simp), fun _ h=>h, fun _ h=>.inl h, fun b hb=>Nat.lt_of_lt_of_le (hS b hb) hg.size, ?_, ⟨fun id B hB'=>?_, fun i j A B b hA hB' _ _ _ _=>?_, fun i A b hA _ hbk hSb=>?_⟩, fun i A b hA _ hbk=>.inl (hb b hbk), fun i A hA=>by simp at hA⟩
 ·exact ak.own (μ:=fun _=>v) 0
 ·cases id with
  | zero=>simp at hB';subst hB';exact hB
  | succ id=>simp at hB'
 ·have h1:i=0:=by cases i with | zero=>rfl | succ i=>simp at hA
  have h2:j=0:=by cases j with | zero=>rfl | succ j=>simp at hB'
  rw[h1, h2]
 ·have:=hb b hbk
  have:=hS b hSb
  omega
end Go.Proofs.YtckgpflobhpnpaaGreat
