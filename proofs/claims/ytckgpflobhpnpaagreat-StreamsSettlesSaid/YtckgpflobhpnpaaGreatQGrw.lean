/-
  slices.Grow of no slice: a row of the call's own, of length 0.
-/
import Derived.Test.YtckgpflobhpnpaaGreatQNeD
import Derived.Test.YtckgpflobhpnpaaGreatQPrT
namespace Go.Proofs.YtckgpflobhpnpaaGreat
open Go.RowKit
set_option linter.unusedVariables false
set_option linter.unusedSimpArgs false
def lZ (f:Nat→Bool):Nat→Int
 | 0=>-1
 | n+1=>if dG (fun i=>!f i) n=true then (if f n=true then n else -1)else lZ f n
theorem fc {f:Nat→Bool} {i:Nat} (hf:f i=true) (h:∀z, z<i→f z=false):∀{n:Nat}, i<n→lZ f n=i
 | 0, h0=>absurd h0 (Nat.not_lt_zero _)
 | n+1, h0=>by
  rw[lZ]
  by_cases e:i=n
  ·subst e
   rw[if_pos (bL.2 (fun z hz=>by rw[h z hz];rfl)), if_pos hf]
  ·rw[if_neg (by rw[fI (show i<n by omega) (by simp[hf])];simp), fc hf h (by omega)]
theorem iU {f:Nat→Bool}:∀{n:Nat}, (∀z, z<n→f z=false)→lZ f n=-1
 | 0, _=>rfl
 | n+1, h=>by
  rw[lZ, if_pos (bL.2 (fun z hz=>by rw[h z (by omega)];rfl)), if_neg (by rw[h n (by omega)];simp)]
theorem wC {f:Nat→Bool}:∀{n:Nat}, decide (0≤lZ f n)=!(dG (fun i=>!f i) n)
 | 0=>rfl
 | n+1=>by
  rw[lZ]
  split
  ·rename_i h1
   rw[dG, h1]
   split
   ·rename_i h2;simp[h2]
   ·rename_i h2;simp[h2]
  ·rename_i h1
   rw[wC, dG]
   simp only[Bool.not_eq_true]at h1
   rw[h1];rfl
def l5 (l:List Int) (w:Int):Int:=lZ (fun i=>!b8 (l.getD i 0) w) l.length
theorem ts {l:List Int} {w:Int}:(!decide (0≤l5 l w))=di l w:=by
 unfold l5 di
 rw[wC, Bool.not_not]
 exact congrArg (dG · _) (funext fun i=>by rw[Bool.not_not])
def OL (l:List Bool) (b:Bool):Int:=lZ (fun i=>b==l.getD i false) l.length
def KZ (l:List Bool) (b:Bool):Bool:=decide (0≤OL l b)
theorem yr {ls:List (List Int)} {i:Nat} (h:i<ls.length):(ls.take (i+1)).flatten=(ls.take i).flatten++ls.getD i []:=by
 rw[List.take_succ_eq_append_getElem h, List.flatten_append]
 simp[List.getD, List.getElem?_eq_getElem h]
theorem zF {ls:List (List Int)} {i:Nat}:(ls.take i).flatten.length≤ls.flatten.length:=by
 conv=>rhs;rw[← List.take_append_drop i ls, List.flatten_append, List.length_append]
 omega
theorem Ik {ls:List (List Int)} {i:Nat} (h:ls.length≤i):(ls.take i).flatten=ls.flatten:=by rw[List.take_of_length_le h]
section
variable {c:Ci} {s:Ns}
theorem tu (h:¬s.procs.length=c.procs.length):cy c s=false:=by unfold cy;rw[decide_eq_false h];rfl
theorem tv (h:¬s.chans.length=c.chans.length):cy c s=false:=by unfold cy;rw[decide_eq_false h, Bool.and_false];rfl
theorem tx {i:Nat} (hi:i<c.procs.length) (h:b5 (bj c i) (zB s i)=false):cy c s=false:=by unfold cy;rw[fI hi h, Bool.and_false];rfl
theorem ii {n:Nat} (hn:n<c.chans.length) (h:je c s n=false):cy c s=false:=by unfold cy;rw[fI hn h, Bool.and_false]
theorem tz (h1:s.procs.length=c.procs.length) (h2:s.chans.length=c.chans.length) (h3:∀i, i<c.procs.length→b5 (bj c i) (zB s i)=true) (h4:∀n, n<c.chans.length→je c s n=true):cy c s=true:=by
 unfold cy
 rw[decide_eq_true h1, decide_eq_true h2, bL.2 h3, bL.2 h4];rfl
end
theorem kN {c:Ci} {s:Ns} {n:Nat} (h:¬di (lU s n) (cH c n).w=true):je c s n=false:=by
 simp only[Bool.not_eq_true]at h
 unfold je;rw[h, Bool.false_and]
theorem kO {c:Ci} {s:Ns} {n:Nat} (h0:0≤(cH c n).frm) (h1:0≤(cH c n).dst) (h:¬((lU s n).length:Int)≤(cH c n).cap):je c s n=false:=by
 unfold je;rw[decide_eq_true h0, decide_eq_true h1, decide_eq_false h];simp
theorem C0 {c:Ci} {s:Ns} {n:Nat} (h:di (lU s n) (cH c n).w=true) (h0:¬0≤(cH c n).frm):je c s n=true:=by
 unfold je;rw[h, decide_eq_false h0];rfl
theorem C2 {c:Ci} {s:Ns} {n:Nat} (h:di (lU s n) (cH c n).w=true) (h0:¬0≤(cH c n).dst):je c s n=true:=by
 unfold je;rw[h, decide_eq_false h0, Bool.and_false];rfl
theorem C3 {c:Ci} {s:Ns} {n:Nat} (h:di (lU s n) (cH c n).w=true) (h0:((lU s n).length:Int)≤(cH c n).cap):je c s n=true:=by
 unfold je;rw[h, decide_eq_true h0, Bool.or_true];rfl
def du (c:Ci):Ns:=⟨tab (fun i=>aR (bj c i)) c.procs.length, List.replicate c.chans.length []⟩
theorem Il {c:Ci} {s:Ns} {p m:Nat} (h:(cH c (xn (bj c p) m)).dst=-1):cX c s p m=true:=by unfold cX;rw[decide_eq_true h];rfl
theorem zG {c:Ci} {s:Ns} {p m:Nat} (h:¬(cH c (xn (bj c p) m)).dst=-1):cX c s p m=decide (((lU s (xn (bj c p) m)).length:Int)<(cH c (xn (bj c p) m)).cap):=by unfold cX;rw[decide_eq_false h];rfl
def EY (s:Ns) (k:Nat):Prop:=∀n, (lU s n).length≤k
def kh (f:Ch→Int) (c:Ci) (n:Int):Bool:=decide (0≤n)&&(decide (n<c.chans.length)&&decide (f (cH c n.toNat)=-1))
theorem wD {f:Ch→Int} {c:Ci} {n:Int} (h:¬0≤n):kh f c n=false:=by unfold kh;rw[decide_eq_false h];rfl
theorem wE {f:Ch→Int} {c:Ci} {n:Int} (h:¬n<c.chans.length):kh f c n=false:=by unfold kh;rw[decide_eq_false h, Bool.false_and, Bool.and_false]
theorem o9 {f:Ch→Int} {c:Ci} {n:Int} (h1:0≤n) (h2:n<c.chans.length):kh f c n=decide (f (cH c n.toNat)=-1):=by unfold kh;rw[decide_eq_true h1, decide_eq_true h2, Bool.true_and, Bool.true_and]
theorem ah.of_empty {P:Program} {f:FuncId} {ar:List D} {E sz:Nat} {α:Type} {enc:α→List V} {d:α}
  (h:∀(S:Nat→Prop) (μ:Nat→Value) (w:World) (us:Array Value), aJ S μ w ar us→Calls P f us w (fun e w'=>∃v, e=.returned v∧w'.ownsRow 0 E sz v 0 []∧w.grownBy w' none∧∀b, aG v=some b→w.heap.size≤b)) :
  ah P f ar [] false (.own 0) [.arr E sz enc d []]:=by
 intro S μ w us hS _ hus
 refine(h S μ w us hus).mono ?_
 rintro e w' ⟨v, rfl, ho, hg, hb0⟩
 have hv1:v.oneCell'=true:=by rcases ho.2 with ⟨rfl, _⟩ | ⟨g, cap, cur, rfl, _⟩<;>rfl
 have hb:∀b, bO v b→w.heap.size≤b:=fun b h=>hb0 b (h.bl hv1)
 have hB:aI S (fun _=>v) w' v (.arr E sz enc d []):=⟨fun i x hx=>by simp at hx, [], by simpa using ho, fun i x j y hx=>by simp at hx⟩
 refine⟨v, fun _=>v, S, rfl, hg.os, hg.tape, hg.output, hg.size, fun k hk _=>hg.block k hk (by simp), fun _ h=>h, fun _ h=>.inl h, fun b hb=>Nat.lt_of_lt_of_le (hS b hb) hg.size, ?_, ⟨fun id B hB'=>?_, fun i j A B b hA hB' _ _ _ _=>?_, fun i A b hA _ hbk hSb=>?_⟩, fun i A b hA _ hbk=>.inl (hb b hbk), fun i A hA=>by simp at hA⟩
 ·exact aj.own (μ:=fun _=>v) 0
 ·cases id with
  | zero=>simp at hB';subst hB';exact hB
  | succ id=>simp at hB'
 ·have h1:i=0:=by cases i with | zero=>rfl | succ i=>simp at hA
  have h2:j=0:=by cases j with | zero=>rfl | succ j=>simp at hB'
  rw[h1, h2]
 ·have:=hb b hbk
  have:=hS b hSb
  omega
end Go.Proofs.YtckgpflobhpnpaaGreat
