/- Parts of a proof. -/
import Derived.Test.YtnlmlkbaflmgcaaGreatQKb
namespace Go.Proofs.YtnlmlkbaflmgcaaGreat
open Go.RowKit
set_option linter.unusedVariables false
set_option linter.unusedSimpArgs false
theorem uF {P:Program} {w:World} {t:TypeId}:(Instr.makeMap t none).run P w=.ok (.map (some w.heap.size)) (w.alloc (.map #[] 0)):=by
 simp[Instr.makeMap,newObj,Sem.run]
theorem wA {P:Program} {w:World} {t K E:TypeId} {arr:Array MapEntry} {clock:Nat} {k:Int} {v:Value} (ht:P.underlying t=some (.map K E)) (hK:P.underlying K=some (.int .i64)) (hf:Instr.findNow (.int .i64) (.int .i64 k) arr.toList 0=some none) :
  (Instr.mapUpdate t (.map (some w.heap.size)) (.int .i64 k) v).run P (w.alloc (.map arr clock))=.ok () (w.alloc (.map (arr.push ⟨.int .i64 k,v,clock⟩) (clock+1))):=by
 have hu:∀w,(underlying t).run P w=.ok (.map K E) w:=fun w=>by simp[underlying,ht,Uv,Sem.run]
 have Yq:∀w,(underlying K).run P w=.ok (.int .i64) w:=fun w=>by simp[underlying,hK,Uv,Sem.run]
 have hb:(w.alloc (.map arr clock)).heap[w.heap.size]?=some (.map arr clock):=Vx w _
 have hg:(getObj w.heap.size).run P (w.alloc (.map arr clock))=.ok (.map arr clock) (w.alloc (.map arr clock)):=by
  unfold getObj Sem.run
  rw[hb]
  rfl
 have hc:(Instr.checkKey false 10000 K (.int .i64 k)).run P (w.alloc (.map arr clock))=.ok () (w.alloc (.map arr clock)):=by
  rw[show(10000:Nat)=9999+1 from rfl]
  unfold Instr.checkKey
  simp[Uv,Yq]
 have hk:(Instr.findKey K (.int .i64 k) arr.toList).run P (w.alloc (.map arr clock))=.ok none (w.alloc (.map arr clock)):=by
  simp[Instr.findKey,Uv,Yq,hf]
 have hs:∀o:Obj,(setObj w.heap.size o).run P (w.alloc (.map arr clock))=.ok () (w.alloc o):=by
  intro o
  unfold setObj Sem.run
  rw[hb]
  have hh:(w.heap.push (.map arr clock)).setIfInBounds w.heap.size o=w.heap.push o:=by
   apply Array.ext
   ·simp
   ·intro i h1 h2
    simp only[Array.size_push]at h2
    by_cases hi:i=w.heap.size
    ·subst hi;simp
    ·rw[Array.getElem_setIfInBounds_ne (by simp;omega) (Wx hi)]
     simp[Array.getElem_push,show i<w.heap.size by omega]
  show Result.ok () (⟨(w.heap.push (.map arr clock)).setIfInBounds w.heap.size o,w.tape,w.drawn,w.os,w.output⟩:World)=.ok () ⟨w.heap.push o,w.tape,w.drawn,w.os,w.output⟩
  rw[hh]
 simp[Instr.mapUpdate,Uv,hu,hg,hc,hk,hs]
theorem ah.of_map {P:Program} {f:FuncId} {n:Nat} {es:List (Int×Value)} (h:∀w:World,Calls P f #[] w (fun e w'=>∃arr:Array MapEntry,e=.returned (.map (some w.heap.size))∧w'=w.alloc (.map arr n)∧arr.toList.map (fun e=>(e.key,e.val))=es.map (fun e=>(Value.int .i64 e.1,e.2)))) :
  ah P f [] [] false (.v (.mp es)) []:=by
 intro S μ w us hS _ hH WX
 have h0:us=#[]:=Array.eq_empty_of_size_eq_zero WX.1
 subst h0
 refine(h w).mono ?_
 rintro e w' ⟨arr,rfl,rfl,he⟩
 have hb:Below w.heap.size w (w.alloc (.map arr n)):=(Wm _ w).alloc (Ut _) _
 have WE:(w.alloc (.map arr n)).heap.size=w.heap.size+1:=by simp
 refine⟨_,μ,fun b=>S b∨b=w.heap.size,rfl,hb.os,hb.tape,hb.output,hb.size,fun k hk _=>hb.block k hk,fun _ h=>.inl h,fun b h=>h.imp id (fun h=>by omega),fun b Xa=>Xa.elim (fun h=>by have:=hS b h;omega) (fun h=>by omega),.v _ _ (.mp es w.heap.size n arr ⟨.inr rfl,.inr (Ut _)⟩ (by omega) (Vx w _) he),⟨fun id B hB=>by simp at hB,fun i j A B b hA=>by simp at hA,fun i A b hA=>by simp at hA⟩,fun i A b hA=>by simp at hA,fun i A hA=>by simp at hA⟩
theorem eY {a:Nat} (h:a<9223372036854775808):(BitVec.ofInt (IntKind.i64).bits (a:Int)).toNat=a:=by
 show(BitVec.ofInt 64 (a:Int)).toNat=a
 rw[BitVec.toNat_ofInt]
 omega
theorem jA {a:Nat} (h:a<9223372036854775808):IntKind.wrap .i64 (a:Int)=(a:Int):=by
 rw[IntKind.wrap_i64];omega
theorem Qc {a b:Nat} (ha:a<9223372036854775808) (hb:b<9223372036854775808):IntKind.wrap .i64 ((BitVec.ofInt (IntKind.i64).bits (a:Int) &&& BitVec.ofInt (IntKind.i64).bits (b:Int)).toNat:Int)=((a &&& b:Nat):Int):=by
 rw[BitVec.toNat_and,eY ha,eY hb]
 exact jA (Nat.lt_of_le_of_lt Nat.and_le_left ha)
theorem Qd {a b:Nat} (ha:a<9223372036854775808) (hb:b<9223372036854775808):IntKind.wrap .i64 ((BitVec.ofInt (IntKind.i64).bits (a:Int) ||| BitVec.ofInt (IntKind.i64).bits (b:Int)).toNat:Int)=((a ||| b:Nat):Int):=by
 rw[BitVec.toNat_or,eY ha,eY hb]
 exact jA (Nat.or_lt_two_pow (n:=63) ha hb)
theorem Qe {a b:Nat} (ha:a<9223372036854775808) (hb:b<9223372036854775808):IntKind.wrap .i64 ((BitVec.ofInt (IntKind.i64).bits (a:Int) ^^^ BitVec.ofInt (IntKind.i64).bits (b:Int)).toNat:Int)=((a ^^^ b:Nat):Int):=by
 rw[BitVec.toNat_xor,eY ha,eY hb]
 exact jA (Nat.xor_lt_two_pow (n:=63) ha hb)
theorem ir {x:Int} {n:Nat} (hn:n≤62):IntKind.wrap .i64 ((BitVec.ofInt (IntKind.i64).bits x &&& BitVec.ofInt (IntKind.i64).bits ((2:Int)^n-1)).toNat:Int)=x%2^n:=by
 have hp:(2:Nat)^n≤2^62:=VJ (by omega) hn
 have hp1:1≤(2:Nat)^n:=Nat.one_le_two_pow
 have e:((2:Int)^n-1)=((2^n-1:Nat):Int):=by
  have:((2:Int)^n)=((2^n:Nat):Int):=by simp
  rw[this]
  omega
 rw[e,BitVec.toNat_and,eY (by omega)]
 rw[Nat.and_two_pow_sub_one_eq_mod]
 have h1:(BitVec.ofInt (IntKind.i64).bits x).toNat%2^n<2^n:=Nat.mod_lt _ (by omega)
 rw[jA (by omega)]
 show(((BitVec.ofInt 64 x).toNat%2^n:Nat):Int)=x%2^n
 rw[BitVec.toNat_ofInt]
 have h2:((2^n:Nat):Int) ∣ ((2^64:Nat):Int):=Int.natCast_dvd_natCast.2 (Nat.pow_dvd_pow 2 (by omega))
 have h3:(((x%((2^64:Nat):Int)).toNat:Nat):Int)=x%((2^64:Nat):Int):=Int.toNat_of_nonneg (VC _ (by decide))
 have e3:(((2^n:Nat)):Int)=2^n:=by simp
 have e4:∀a b:Nat,((a%b:Nat):Int)=(a:Int)%(b:Int):=fun a b=>by first | exact Int.natCast_emod a b | exact Int.ofNat_emod a b | simp
 rw[e4,h3,← e3]
 exact Int.emod_emod_of_dvd x h2
def ax (n:Int):Bool:=decide (1≤n)&&decide (n≤8)
theorem aQ {n:Int}:ax n=true↔1≤n∧n≤8:=by simp[ax]
def ai (w:Int):Int:=if w<0∨62<w then 0 else 2^w.toNat-1
theorem da {w:Int} (h:0≤w) (h2:w≤62):ai w=2^w.toNat-1:=Ur (by omega)
theorem aB {w:Int} (h:0≤w) (h2:w≤8):0≤ai w∧ai w≤255:=by
 have:w=0∨w=1∨w=2∨w=3∨w=4∨w=5∨w=6∨w=7∨w=8:=by omega
 rcases this with rfl | rfl | rfl | rfl | rfl | rfl | rfl | rfl | rfl<;>decide
theorem nP {n:Nat} (h:n≤62):(1:Int)≤2^n∧(2:Int)^n≤4611686018427387904:=by
 have hp:(2:Nat)^n≤2^62:=VJ (by omega) h
 have hp1:1≤(2:Nat)^n:=Nat.one_le_two_pow
 have e:((2:Int)^n)=((2^n:Nat):Int):=by simp
 rw[e]
 omega
theorem LK {w:Int} (h0:0≤w) (h:w≤62):IntKind.wrap .i64 (1*2^min w.toNat 64)=2^w.toNat:=by
 have hp:=nP (n:=w.toNat) (by omega)
 rw[Nat.min_eq_left (by omega),Int.one_mul,IntKind.wrap_i64]
 omega
abbrev SH (w:Int):Prop:=0≤w∧IntKind.i64.wrap (1*2^min w.toNat 64)=2^w.toNat
theorem sh {w:Int} (h0:0≤w:=by omega) (h:w≤62:=by omega):SH w:=⟨h0,LK h0 h⟩
def bw (op:Int):Int:=if op=1 then 0 else if op=2∨op=12∨op=13 then 1 else if op=10 then 3 else if 3≤op∧op≤11 then 2 else -1
def g (l:List Int) (i:Nat):Int:=l.getD i 0
def bV (ws:List Int):Int:=if ws.getD 0 0≠ws.getD 1 0 then 0 else ws.getD 0 0
def bp (op:Int) (ws:List Int) (k w:Int):Int :=
 if op=1 then (if ax w=false∨k<0∨ai w<k then 0 else w)
 else if op=2 then ws.getD 0 0
 else if op=8∨op=9 then min (bV ws) 1
 else if op=10 then (if ws.getD 0 0≠1∨ws.getD 1 0≠ws.getD 2 0 then 0 else ws.getD 1 0)
 else if op=11 then ws.getD 0 0+ws.getD 1 0
 else if op=12 then (if ax w=false∨k<0∨ws.getD 0 0-w<k then 0 else w)
 else if op=13 then (if w<ws.getD 0 0 then 0 else w)
 else bV ws
def it (op:Int) (ws:List Int) (k w:Int):Bool:=decide ((ws.length:Int)=bw op)&&ws.all ax&&ax (bp op ws k w)
def jB (op:Int) (ws ys:List Int) (k w:Int):Int :=
 if op=1 then k
 else if op=2 then (((ys.getD 0 0).toNat ^^^ (ai (ws.getD 0 0)).toNat:Nat):Int)
 else if op=3 then (((ys.getD 0 0).toNat &&& (ys.getD 1 0).toNat:Nat):Int)
 else if op=4 then (((ys.getD 0 0).toNat ||| (ys.getD 1 0).toNat:Nat):Int)
 else if op=5 then (((ys.getD 0 0).toNat ^^^ (ys.getD 1 0).toNat:Nat):Int)
 else if op=6 then (ys.getD 0 0+ys.getD 1 0)%2^(ws.getD 0 0).toNat
 else if op=7 then (ys.getD 0 0-ys.getD 1 0)%2^(ws.getD 0 0).toNat
 else if op=8 then (if ys.getD 0 0=ys.getD 1 0 then 1 else 0)
 else if op=9 then (if ys.getD 0 0<ys.getD 1 0 then 1 else 0)
 else if op=10 then ys.getD (2-ys.getD 0 0).toNat 0
 else if op=11 then (((ys.getD 0 0).toNat*2^(ws.getD 1 0).toNat ||| (ys.getD 1 0).toNat:Nat):Int)
 else if op=12 then (ys.getD 0 0 / 2^k.toNat)%2^w.toNat
 else ys.getD 0 0
def Bx (ws ys:List Int):Bool:=(List.range ys.length).all fun i=>decide (0≤ys.getD i 0)&&decide (ys.getD i 0≤ai (ws.getD i 0))
def fg (op:Int) (ws ys G':List Int):Bool:=decide (G'.length=2)&&decide (ys.length=ws.length)&&it op ws (G'.getD 0 0) (G'.getD 1 0)&&Bx ws ys
def cT (op:Int) (ws ys G':List Int):Int:=if fg op ws ys G' then jB op ws ys (G'.getD 0 0) (G'.getD 1 0)else 0
def iL (op:Int) (ws ys G':List Int):Int:=if fg op ws ys G' then 0 else 1
def b7 (op:Int) (ws:List Int) (k w:Int):Int:=if it op ws k w then bp op ws k w else 0
def kH (op:Int) (ws:List Int) (k w:Int):Int:=if it op ws k w then 0 else 1
def tE:Nat→List Int→Int
 | _,[]=>-1
 | n,x::l=>if ax x then tE (n+1) l else (n:Int)
theorem yc:∀(l:List Int) (n:Nat),decide (0≤tE n l)=!(l.all ax)
 | [],n=>by simp[tE]
 | x::l,n=>by
  unfold tE
  rw[We]
  cases h:ax x
  ·simp
  ·simp only[V5,Ww]
   exact yc l (n+1)
theorem yd {ws:List Int} {k:Nat} (h:k<ws.length):tE k (ws.drop k)=if ax (ws.getD k 0)then tE (k+1) (ws.drop (k+1))else (k:Int):=by
 rw[V4 h]
 simp[tE,List.getD,Uq h]
theorem aE {ws:List Int} (h:ws.all ax=true) {i:Nat} (hi:i<ws.length):1≤ws.getD i 0∧ws.getD i 0≤8:=by
 rw[UU]at h
 have:=h (ws.getD i 0) (by simp[List.getD,Uq hi])
 exact aQ.1 this
theorem bh {ws xs:List Int} (h:Bx ws xs=true) {i:Nat} (hi:i<xs.length):0≤xs.getD i 0∧xs.getD i 0≤ai (ws.getD i 0):=by
 unfold Bx at h
 rw[UU]at h
 have:=h i (Va.2 hi)
 simp only[Uo,U8]at this
 exact this
theorem tF {a b:Int} (h1:0≤a) (h2:a<9223372036854775808) (h3:0≤b) (h4:b<9223372036854775808):IntKind.wrap .i64 ((BitVec.ofInt (IntKind.i64).bits a ^^^ BitVec.ofInt (IntKind.i64).bits b).toNat:Int)=((a.toNat ^^^ b.toNat:Nat):Int):=by
 obtain⟨n,rfl⟩:=Vg h1
 obtain⟨m,rfl⟩:=Vg h3
 exact Qe (by omega) (by omega)
theorem ye {a b:Int} (h1:0≤a) (h2:a<9223372036854775808) (h3:0≤b) (h4:b<9223372036854775808):IntKind.wrap .i64 ((BitVec.ofInt (IntKind.i64).bits a &&& BitVec.ofInt (IntKind.i64).bits b).toNat:Int)=((a.toNat &&& b.toNat:Nat):Int):=by
 obtain⟨n,rfl⟩:=Vg h1
 obtain⟨m,rfl⟩:=Vg h3
 exact Qc (by omega) (by omega)
theorem Bz {a b:Int} (h1:0≤a) (h2:a<9223372036854775808) (h3:0≤b) (h4:b<9223372036854775808):IntKind.wrap .i64 ((BitVec.ofInt (IntKind.i64).bits a ||| BitVec.ofInt (IntKind.i64).bits b).toNat:Int)=((a.toNat ||| b.toNat:Nat):Int):=by
 obtain⟨n,rfl⟩:=Vg h1
 obtain⟨m,rfl⟩:=Vg h3
 exact Qd (by omega) (by omega)
theorem yf {a:Nat} {n:Nat} (ha:a≤255) (hn:n≤8):a*2^n≤65280:=by
 have:2^n≤2^8:=VJ (by omega) hn
 calc a*2^n≤255*2^8:=Nat.mul_le_mul ha this
  _=65280:=by decide
theorem Fa {a n:Int} (ha:0≤a∧a≤255) (hn:0≤n∧n≤8):IntKind.wrap .i64 (a*2^min n.toNat 64)=((a.toNat*2^n.toNat:Nat):Int):=by
 obtain⟨x,rfl⟩:=Vg ha.1
 obtain⟨m,rfl⟩:=Vg hn.1
 have hb:=yf (a:=x) (n:=m) (by omega) (by omega)
 rw[Vd,Vd,Nat.min_eq_left (by omega)]
 have e:((x:Int)*2^m)=((x*2^m:Nat):Int):=by simp
 rw[e]
 exact jA (by omega)
theorem Fb {a b n:Int} (ha:0≤a∧a≤255) (hn:0≤n∧n≤8) (hb:0≤b∧b≤255):IntKind.wrap .i64 ((BitVec.ofInt (IntKind.i64).bits ((a.toNat*2^n.toNat:Nat):Int) ||| BitVec.ofInt (IntKind.i64).bits b).toNat:Int)=((a.toNat*2^n.toNat ||| b.toNat:Nat):Int):=by
 have h:=yf (a:=a.toNat) (n:=n.toNat) (by omega) (by omega)
 obtain⟨m,rfl⟩:=Vg hb.1
 exact Qd (by omega) (by omega)
theorem zI {a n:Int} (h:0≤n) (h2:n≤62):Int.fdiv a (2^min n.toNat 64)=a / 2^n.toNat:=by
 rw[Nat.min_eq_left (by omega),Int.fdiv_eq_ediv_of_nonneg _ (Int.le_of_lt (Int.pow_pos (by decide)))]
theorem kI {op:Int} {ws:List Int} {k w:Int} (h:it op ws k w=true):(ws.length:Int)=bw op∧ws.all ax=true∧ax (bp op ws k w)=true:=by
 unfold it at h
 simp only[Uo,U8]at h
 exact⟨h.1.1,h.1.2,h.2⟩
theorem LL {op:Int} (h:op<1∨13<op) (ws:List Int) (k w:Int):it op ws k w=false:=by
 have:bw op=-1:=by
  unfold bw
  rw[Ur (by omega),Ur (by omega),Ur (by omega),Ur (by omega)]
 unfold it
 rw[this,Uy (by omega)]
 rfl
theorem zJ {ws:List Int} {k w:Int} (h:it 10 ws k w=true):ws.getD 0 0=1:=by
 have h3:=aQ.1 (kI h).2.2
 have e:bp 10 ws k w=(if ws.getD 0 0≠1∨ws.getD 1 0≠ws.getD 2 0 then 0 else ws.getD 1 0):=rfl
 rw[e]at h3
 split at h3
 ·omega
 ·rename_i hn
  refine Vr fun hh=>hn (.inl hh)
theorem zK {ws:List Int} {k w:Int} (h:it 12 ws k w=true):0≤k∧k≤8∧ax w=true:=by
 obtain⟨h1,h2,h3⟩:=kI h
 have h3:=aQ.1 h3
 have e:bp 12 ws k w=(if ax w=false∨k<0∨ws.getD 0 0-w<k then 0 else w):=rfl
 rw[e]at h3
 have hA:bw 12=1:=by decide
 rw[hA]at h1
 have f0:=aE h2 (i:=0) (by omega)
 split at h3
 ·omega
 ·rename_i hn
  simp only[not_or,Bool.not_eq_false]at hn
  have:=aQ.1 hn.1
  exact⟨by omega,by omega,hn.1⟩
theorem bf {op:Int} {ws xs G':List Int} (h:fg op ws xs G'=false):cT op ws xs G'=0∧iL op ws xs G'=1:=by
 unfold cT iL
 rw[h]
 exact⟨rfl,rfl⟩
theorem d4 {op:Int} {ws xs G':List Int} (h1:G'.length=2) (h2:xs.length=ws.length) (h3:it op ws (G'.getD 0 0) (G'.getD 1 0)=true) (h4:Bx ws xs=true):cT op ws xs G'=jB op ws xs (G'.getD 0 0) (G'.getD 1 0)∧iL op ws xs G'=0:=by
 have h:fg op ws xs G'=true:=by
  unfold fg
  rw[Uz h1,Uz h2,h3,h4]
  rfl
 unfold cT iL
 rw[h]
 exact⟨rfl,rfl⟩
theorem rY {op:Int} {ws xs G':List Int} (h:G'.length≠2):fg op ws xs G'=false:=by
 unfold fg
 rw[Uy h]
 rfl
theorem rZ {op:Int} {ws xs G':List Int} (h:xs.length≠ws.length):fg op ws xs G'=false:=by
 unfold fg
 rw[Uy h,U7]
 rfl
theorem cB {op:Int} {ws xs G':List Int} (h:it op ws (G'.getD 0 0) (G'.getD 1 0)=false):fg op ws xs G'=false:=by
 unfold fg
 rw[h,U7]
 rfl
theorem kb {op:Int} {ws xs G':List Int} {i:Nat} (hi:i<xs.length) (h:xs.getD i 0<0∨ai (ws.getD i 0)<xs.getD i 0):fg op ws xs G'=false:=by
 have:Bx ws xs=false:=by
  rw[Vu]
  intro hh
  have:=bh hh hi
  omega
 unfold fg
 rw[this,U7]
theorem IY {ws xs:List Int} (h:∀i,i<xs.length→0≤xs.getD i 0∧xs.getD i 0≤ai (ws.getD i 0)):Bx ws xs=true:=by
 unfold Bx
 rw[UU]
 intro i hi
 have:=h i (Va.1 hi)
 rw[Uz this.1,Uz this.2]
 rfl
theorem bD {p:Nat→Prop} {i:Nat} (h:∀j,j<i→p j) (hi:p i):∀j,j<i+1→p j:=fun j hj=>by
 rcases Nat.lt_or_ge j i with h1 | h1
 ·exact h j h1
 ·have:j=i:=by omega
  rw[this];exact hi
def BA (op:Int) (ws:List Int):Bool:=decide ((ws.length:Int)=bw op)&&ws.all ax
theorem Dx (op:Int) (ws:List Int) (k w:Int):it op ws k w=(BA op ws&&ax (bp op ws k w)):=rfl
theorem zL {op:Int} {ws:List Int} (h:BA op ws=true):(ws.length:Int)=bw op∧ws.all ax=true:=by
 unfold BA at h
 simp only[Uo,U8]at h
 exact h
theorem IZ {op:Int} {ws:List Int} (h:BA op ws=false):(ws.length:Int)≠bw op∨((ws.length:Int)=bw op∧ws.all ax=false):=by
 unfold BA at h
 by_cases h1:(ws.length:Int)=bw op
 ·rw[Uz h1,Ww]at h
  exact .inr ⟨h1,h⟩
 ·exact .inl h1
mutual
def nD:D→(D→Prop)→Prop
 | .v x,k=>nV x (fun x=>k (.v x))
 | .agg cs,k=>nL cs (fun cs=>k (.agg cs))
 | .tup cs,k=>nL cs (fun cs=>k (.tup cs))
 | .fn f a b,k=>nL a (fun a=>nL b (fun b=>k (.fn f a b)))
 | .nils,k=>k .nils
 | .own i,k=>k (.own i)
 | .ptr i a b c,k=>k (.ptr i a b c)
 | .iptr cs o,k=>k (.iptr cs o)
 | .yld i,k=>k (.yld i)
 | .capd x,k=>k (.capd x)
 | .gr g r,k=>k (.gr g r)
 | .junk,k=>k .junk
def nV:V→(V→Prop)→Prop
 | .int a n,k=>k (.int a n)
 | .bool b,k=>k (.bool b)
 | .str s,k=>k (.str s)
 | .sl sz enc d l,k=>k (.sl sz enc d l)
 | .mp es,k=>k (.mp es)
 | .nilf,k=>k .nilf
 | .nsl,k=>k .nsl
 | .esl,k=>k .esl
 | .sm true enc d l,k=>k (.sm true enc d l)
 | .sm false enc d l,k=>k (.sm false enc d l)
 | .nmp,k=>k .nmp
 | .fnv f,k=>k (.fnv f)
def nL:List D→(List D→Prop)→Prop
 | [],k=>k []
 | d::r,k=>nD d (fun d=>nL r (fun r=>k (d::r)))
end
theorem PY:∀(x:V) (k:V→Prop),nV x k=k x:=by
 intro x k
 cases x with
 | sm ag enc d l=>cases ag<;>rfl
 | _=>rfl
mutual
theorem E4:∀(d:D) (k:D→Prop),nD d k=k d
 | .v x,k=>PY x _
 | .agg cs,k=>xY cs _
 | .tup cs,k=>xY cs _
 | .fn f a b,k=>(xY a _).trans (xY b _)
 | .nils,k=>rfl
 | .own i,k=>rfl
 | .ptr i a b c,k=>rfl
 | .iptr cs o,k=>rfl
 | .yld i,k=>rfl
 | .capd x,k=>rfl
 | .gr g r,k=>rfl
 | .junk,k=>rfl
theorem xY:∀(l:List D) (k:List D→Prop),nL l k=k l
 | [],k=>rfl
 | d::r,k=>(E4 d _).trans (xY r _)
end
def nE:List (Nat×D)→(List (Nat×D)→Prop)→Prop
 | [],k=>k []
 | (t,d)::r,k=>nD d (fun d=>nE r (fun r=>k ((t,d)::r)))
theorem Na:∀(l:List (Nat×D)) (k:List (Nat×D)→Prop),nE l k=k l
 | [],k=>rfl
 | (t,d)::r,k=>(E4 d _).trans (Na r _)
def nB:aC→(aC→Prop)→Prop
 | .dead,k=>k .dead
 | .var T cs,k=>nL cs (fun cs=>k (.var T cs))
 | .arr E sz enc d l,k=>k (.arr E sz enc d l)
 | .loop l tm nt env ps a b s p,k=>k (.loop l tm nt env ps a b s p)
 | .frame tm env,k=>k (.frame tm env)
 | .ro E sz enc d l,k=>k (.ro E sz enc d l)
 | .mpb t ag enc d l,k=>k (.mpb t ag enc d l)
 | .arrD E sz n gs cell,k=>k (.arrD E sz n gs cell)
 | .grp n f,k=>k (.grp n f)
 | .nest E sz n ce m f,k=>k (.nest E sz n ce m f)
theorem Iz (b:aC) (k:aC→Prop):nB b k=k b:=by
 cases b with
 | var T cs=>exact xY cs _
 | _=>rfl
def nH:List aC→(List aC→Prop)→Prop
 | [],k=>k []
 | b::r,k=>nB b (fun b=>nH r (fun r=>k (b::r)))
theorem Nb:∀(l:List aC) (k:List aC→Prop),nH l k=k l
 | [],k=>rfl
 | b::r,k=>(Iz b _).trans (Nb r _)
def nS (st:St) (k:St→Prop):Prop:=nE st.env (fun e=>nH st.heap (fun h=>k ⟨e,h⟩))
theorem rS (st:St) (k:St→Prop):nS st k=k st:=(Na _ _).trans (Nb _ _)
def zC (P:Program) (nt:Nat) (ops:List Oper) (WS:List (Nat×Ov)):Nat→List Oper→St→(St→Prop)→Prop
 | _,[],st,k=>k st
 | i,o::r,st,k=>match gS ops st o with
  | some true=>match rN P nt (qN WS i) o st with
   | (Xl,p1)=>p1∧zC P nt ops WS (i+1) r Xl k
  | some false=>match tv nt st o.dst with
   | (Xl,p1)=>p1∧zC P nt ops WS (i+1) r Xl k
  | none=>False
theorem vu {P:Program} {nt:Nat} {ops:List Oper} {WS:List (Nat×Ov)}:∀(r:List Oper) (i:Nat) (st:St) (k:St→Prop),zC P nt ops WS i r st k→(fv P nt ops WS i r st).2∧k (fv P nt ops WS i r st).1
 | [],i,st,k,h=>⟨trivial,h⟩
 | o::r,i,st,k,h=>by
  unfold zC at h
  unfold fv
  split at h
  ·rename_i hg
   rw[hg]
   simp only
   generalize hq:rN P nt (qN WS i) o st=q at h
   obtain⟨Xl,p1⟩:=q
   obtain⟨h1,h2⟩:=h
   have h3:=vu r (i+1) Xl k h2
   exact⟨⟨h1,h3.1⟩,h3.2⟩
  ·rename_i hg
   rw[hg]
   simp only
   generalize hq:tv nt st o.dst=q at h
   obtain⟨Xl,p1⟩:=q
   obtain⟨h1,h2⟩:=h
   have h3:=vu r (i+1) Xl k h2
   exact⟨⟨h1,h3.1⟩,h3.2⟩
  ·exact h.elim
structure Mk:Type 1 where
 make ::
 d:D
 b:aC
 kl:Option Nat
abbrev oT (d:D) (b:aC):Mk:=.make d b none
def Mk.kil (k:Mk):Option Nat:=match k.b with | .var _ _=>none | _=>k.kl
def Mk.fil (k:Mk):Option Nat:=match k.b with | .var _ _=>k.kl | _=>none
theorem NW {k:Mk} {i:Nat} (h:k.kil=some i):k.kl=some i:=by
 unfold Mk.kil at h
 split at h
 ·cases h
 ·exact h
theorem wk {k:Mk} {i:Nat} (h:k.fil=some i):k.kl=some i:=by
 unfold Mk.fil at h
 split at h
 ·exact h
 ·cases h
theorem wm {k:Mk} (h:k.kl=none):k.fil=none:=by
 unfold Mk.fil
 split
 ·exact h
 ·rfl
theorem Lm {k:Mk} (h:k.b.isOwn=true∨k.b=.dead):k.fil=none:=by
 unfold Mk.fil
 split
 ·rename_i T cs hb
  rcases h with h | h<;>rw[hb]at h<;>cases h
 ·rfl
theorem NX {k:Mk} (h:k.fil=none):k.kil=k.kl:=by
 unfold Mk.fil at h
 unfold Mk.kil
 cases hb:k.b<;>rw[hb]at h<;>first | rfl | exact h.symm
def nK:Option Nat→(Option Nat→Prop)→Prop
 | none,k=>k none
 | some i,k=>k (some i)
theorem Nc (o:Option Nat) (k:Option Nat→Prop):nK o k=k o:=by cases o<;>rfl
def Ln (H:List aC) (fz:Bool) (E sz:Nat) {α:Type} (enc:α→List V) (d:α) (l:List α) (kl:Option Nat) (p:Prop):Option (Mk×Prop):=match fz with
 | false=>some (.make (.own H.length) (.arr E sz enc d l) kl,p)
 | true=>some (.make (.v (.sl sz enc d l)) .dead kl,p)
def jx:Option (Mk×Prop):=some (oT .junk .dead,False)
def IA (P:Program) (H:List aC) (fz:Bool) (E sz:Nat) {α:Type} (enc:α→List V) (d:α) (l:List α) (t:TypeId) (s x:D):Option (Mk×Prop):=match P.underlying t with
 | some (.slice E0)=>match ju P E0,Bc H (aH P E0) x with
  | some z,some new=>match dh P E0&&Nat.beq z.length (aH P E0)&&Nat.ble 1 (aH P E0)&&Nat.ble (jv P E0) 1024&&(Nat.beq E E0&&Nat.beq sz (aH P E0))with
   | true=>match s with
    | .own id=>match H[id]? with
     | some (.arr E' W9 ZE _ l0)=>match Nat.beq E' E0&&Nat.beq W9 (aH P E0)&&D.free id x with
      | true=>Ln H fz E sz enc d l (some id) (l0.length+new.length≤137438953472∧l0.map ZE++new=l.map enc)
      | false=>jx
     | _=>jx
    | .nils=>Ln H fz E sz enc d l none (new.length≤137438953472∧new=l.map enc)
    | _=>jx
   | false=>jx
  | _,_=>jx
 | _=>jx
def IB (P:Program) (H:List aC) (ρ:Operand→D) (ov:Ov) (op:Op):Option (Mk×Prop):=match op with
 | .call ⟨.value f,args,_⟩=>match ov,ρ f with
  | .ownd q' r B,.fn (.func g) first cap=>match j7 P g&&(Dd r&&(B.isOwn&&gg (first++args.toList.map ρ++cap)))with
   | true=>some (oT (r.up H.length) B,vp P g H (first++args.toList.map ρ++cap) q' r B)
   | false=>jx
  | _,_=>none
 | .call ⟨.builtin .append,args,Zw⟩=>match ov,args.toList,Zw.toList with
  | .app fz E sz enc d l,[s,x],[t,t']=>match Nat.beq t t' with
   | true=>IA P H fz E sz enc d l t (ρ s) (ρ x)
   | false=>jx
  | _,_,_=>none
 | .buildSlice t len M'=>match ov with
  | .app false E sz enc d l=>match tz P H (.box E sz enc d l) t len (M'.toList.map fun p=>(p.1,ρ p.2))with
   | (.v _,p)=>some (oT (.own H.length) (.arr E sz enc d l),p)
   | _=>jx
  | _=>none
 | _=>none
def Lo (P:Program) (H:List aC) (ρ:Operand→D) (ov:Ov) (op:Op):Mk×Prop :=
 match op with
 | .alloc T=>match ju P T with
  | some z=>match D.freeL H.length z with
   | true=>(oT (.ptr H.length 0 0 0) (.var T z),True)
   | false=>(oT (.junk) (.dead),False)
  | none=>(oT (.junk) (.dead),False)
 | .box T x=>match kE H (ρ x)with
  | some cs=>match D.freeL H.length cs with
   | true=>(oT (.ptr H.length 0 0 0) (.var T cs),True)
   | false=>(oT (.junk) (.dead),False)
  | none=>(oT (.junk) (.dead),False)
 | .makeSlice t l c=>match P.underlying t,ρ l,ρ c with
  | some (.slice E),.v (.int _ n),.v (.int _ m)=>match ju P E with
   | some z=>match dh P E&&Nat.beq z.length (aH P E)&&Nat.ble 1 (aH P E)&&Nat.ble (jv P E) 1024 with
    | true=>match ov with
     | .box E' W9 WF d' l'=>match Nat.beq E E'&&Nat.beq (aH P E) W9 with
      | true=>(oT (.own H.length) (.arr E (aH P E) WF d' l'),(0≤n∧n≤m∧m≤137438953472)∧l'.length=n.toNat∧∀x∈l',dt z (WF x))
      | false=>(oT (.junk) (.dead),False)
     | .frz E' W9 WF d' l'=>match Nat.beq E E'&&Nat.beq (aH P E) W9 with
      | true=>(oT (.v (.sl (aH P E) WF d' l')) (.dead),(0≤n∧n≤m∧m≤137438953472)∧l'.length=n.toNat∧∀x∈l',dt z (WF x))
      | false=>(oT (.junk) (.dead),False)
     | _=>(oT (.junk) (.dead),False)
    | false=>(oT (.junk) (.dead),False)
   | none=>(oT (.junk) (.dead),False)
  | _,_,_=>(oT (.junk) (.dead),False)
 | .makeMap t none=>match ov with
  | .mbox t' ag enc d _=>match Nat.beq t t' with
   | true=>(oT (.own H.length) (.mpb t ag enc d []),True)
   | false=>(oT (.junk) (.dead),False)
  | _=>(oT (.junk) (.dead),False)
 | op=>match IB P H ρ ov op with
  | some q=>q
  | none=>match Rn P H ρ ov op with
   | (d,p)=>(oT (d) (.dead),p)
def lU:Op→Bool
 | .store _ _ _=>true
 | _=>false
def Dq (P:Program) (H:List aC) (t:TypeId) (a x:D):Mk×Prop:=match a,kE [] x with
 | .ptr id i _ J',some new=>match H[id]? with
  | some (.var T cs)=>match dh P t&&Nat.beq new.length (aH P t)&&new.all (v4 [])&&(Nat.beq i 0&&Nat.ble (J'+new.length) cs.length)with
   | true=>(.make (.tup []) (.var T (gf cs new J')) (some id),True)
   | false=>(oT .junk .dead,False)
  | _=>(oT .junk .dead,False)
 | _,_=>(oT .junk .dead,False)
def wn (P:Program) (H:List aC) (ρ:Operand→D) (ov:Ov) (op:Op):Mk×Prop:=match op with
 | .store t a x=>Dq P H t (ρ a) (ρ x)
 | op=>Lo P H ρ ov op
theorem IC {P:Program} {H:List aC} {ρ:Operand→D} {ov:Ov} {op:Op} (h:lU op=false):wn P H ρ ov op=Lo P H ρ ov op:=by
 cases op<;>first | rfl | cases h
theorem Dr {x:D} {new:List D} (h:kE [] x=some new) (H:List aC):kE H x=some new:=by
 cases x<;>first | exact h | (simp[kE]at h)
theorem IE {x:D} (h:v4 [] x=true) (H:List aC):v4 H x=true:=by
 cases x<;>first | exact h | (simp[v4]at h)
theorem Lq {new:List D} (h:new.all (v4 [])=true) (H:List aC):new.all (v4 H)=true:=by
 rw[UU]at h ⊢
 exact fun x hx=>IE (h x hx) H
theorem Ds {P:Program} {H:List aC} {t:TypeId} {a x:D} {k:Mk} {p:Prop} (h:Dq P H t a x=(k,p)) (hp:p) :
  ∃(id:Nat) (T:TypeId) (cs cs':List D),H[id]?=some (.var T cs)∧k=.make (.tup []) (.var T cs') (some id) ∧
   ∀(st:St),st.heap[id]?=some (.var T cs)→v6 P st .none t a x=(⟨st.env,st.heap.set id (.var T cs')⟩,True):=by
 unfold Dq at h
 split at h
 ·rename_i id i sz J' new W2
  split at h
  ·rename_i T cs I'
   split at h
   ·rename_i hc
    simp only[Ux]at h
    obtain⟨rfl,rfl⟩:=h
    refine⟨id,T,cs,_,I',rfl,fun st Xv=>?_⟩
    simp only[Uo]at hc
    obtain⟨⟨⟨h1,h2⟩,h3⟩,h4,h5⟩:=hc
    unfold v6
    rw[Dr W2 st.heap]
    simp only[h1,h2,Lq h3 st.heap,Bool.and_self,V5,Xv,h4,h5]
   ·cases h;exact hp.elim
  ·cases h;exact hp.elim
 ·cases h;exact hp.elim
section
variable {P:Program} {S:Nat→Prop} {μ:Nat→Value} {w:World}
theorem Bl {E:TypeId} {z:List D} {i:TypeInfo} {v:Value} {n m:Int} {α:Type} {enc:α→List V} {d:α} {l:List α} {μ':Nat→Value} (hz:ju P E=some z) (hi:P.info? E=some i) (hv:i.zero=some v) (Ze:z=v.cells.toList.map D.ofVal1) (WE:i.size=aH P E)
  (XQ:z.length=aH P E) (WN:1≤aH P E) (h0:0≤n) (XX:n≤m) (hm:m≤137438953472) (WA:l.length=n.toNat) (X9:∀x∈l,dt z (enc x)) :
  aN S μ' (w.alloc (.cells (madeCells v.cells (m.toNat*i.size)) E)) (.slice (some ⟨w.heap.size,0,none⟩) n.toNat m.toNat) (.arr E (aH P E) enc d l):=by
 have hzr:aU S μ' w z v.cells:=by
  rw[Ze]
  refine⟨by simp,fun j y u hy hu=>?_⟩
  simp only[UJ,UY,hu,U4,UA]at hy
  subst hy
  exact aq.ofVal1 S μ' w u
 have Yn:v.cells.size=aH P E:=by rw[hzr.1,XQ]
 refine aN.arr_mk ?_
 refine⟨fun k x hx=>?_,(madeCells v.cells (m.toNat*i.size)).toList.take (n.toNat*aH P E),?_,fun k x j y hx hy=>?_⟩
 ·obtain⟨q,hq,rfl⟩:=eS hx
  rw[← (fU (X9 q (UV hq))).1,XQ]
 ·have hle:n.toNat*aH P E≤m.toNat*i.size:=by rw[WE];exact UO _ (by omega)
  refine⟨by simp[size_madeCells,WA];omega,.inr ⟨w.heap.size,m.toNat,madeCells v.cells (m.toNat*i.size),by simp[WA],Vs _,Vx w _,by simp[WA];omega,by simp only[maxLen];omega,by rw[size_madeCells,WE],by simp[WA]⟩⟩
 ·obtain⟨q,hq,rfl⟩:=eS hx
  have XL:k<n.toNat:=by rw[← WA];exact(Up.1 hq).1
  obtain⟨r1,r2⟩:=fU (X9 q (UV hq))
  obtain⟨d,hd,hdy⟩:=r2 j y hy
  have hj:j<aH P E:=by rw[← XQ];exact(Up.1 hd).1
  have hjv:j<v.cells.size:=by omega
  have Za:(k+1)*aH P E≤n.toNat*aH P E:=UO _ XL
  rw[Vw]at Za
  have hle:n.toNat*aH P E≤m.toNat*i.size:=by rw[WE];exact UO _ (by omega)
  refine⟨v.cells[j],?_,(nG hdy (hzr.2 j d _ hd (UM hjv))).stable (fun _ h _=>h) (fun b hb hl=>VD w _ b hl) (by simp)⟩
  rw[UP,Uw (by omega),UY]
  unfold madeCells
  rw[VA,Array.getElem?_range,Uw (by omega)]
  simp only[U4,UA]
  rw[Yn,Nat.mul_add_mod_of_lt' hj]
  simp[hjv]
def NY (S:Nat→Prop) (μ:Nat→Value) (w:World) (H:List aC) (k:Mk) (u:Value) (w':World):Prop :=
 (k.kl=none∧Below w.heap.size w w'∧((k.b=.dead∧aq (fun b=>S b∨w.heap.size≤b) μ w' k.d u)∨(∃obj,k.b.live=true∧w'=w.alloc obj∧aN S (br μ H.length u) w' u k.b∧aq S (br μ H.length u) w' k.d u∧∀b,cx u b→b=w.heap.size) ∨
  (∃(S2:Nat→Prop) (μ1:Nat→Value) (u0:Value),k.b.isOwn=true∧(∀b,S b→S2 b)∧(∀b,S2 b→S b∨w.heap.size≤b)∧(∀b,S2 b→b<w'.heap.size)∧aN S2 μ1 w' u0 k.b∧aq S2 (br μ H.length u0) w' k.d u∧∀b,cx u0 b→w.heap.size≤b∧¬S2 b))) ∨
 (∃(id:Nat) (A B:aC),k.kl=some id∧H[id]?=some A∧A.isArr=true∧B.isArr=true∧w.grownBy w' (aO (μ id))∧aN S μ w' u B∧(∀b,cx u b→aO (μ id)=some b∨w.heap.size≤b) ∧
  ((k.b=B∧k.d=.own H.length)∨∃(E sz:Nat) (α:Type) (enc:α→List V) (d:α) (l:List α),B=.arr E sz enc d l∧k.b=.dead∧k.d=.v (.sl sz enc d l)))
theorem Dt {H:List aC} (hH:bz S μ w H) {E0 sz0:Nat} {α:Type} {ZE:α→List V} {d0:α} {l0:List α} {t:TypeId} {len:Nat} {M':List (Nat×D)} {Wz:List (Nat×Value)} (h1:M'.map (·.1)=Wz.map (·.1))
  (h2:∀(j:Nat) (x:Nat×D) (u:Nat×Value),M'[j]?=some x→Wz[j]?=some u→aq S μ w x.2 u.2) (hS:∀b,S b→b<w.heap.size) {d:D} {p:Prop} (hp:tz P H (.box E0 sz0 ZE d0 l0) t len M'=(d,p)) (D':p) (Xt:∃x,d=.v x) :
  ∃vs,(Instr.buildSlice t len Wz.toArray).run P w=.ok (.slice (some ⟨w.heap.size,0,none⟩) len len) (w.alloc (.cells vs E0))∧aN S μ (w.alloc (.cells vs E0)) (.slice (some ⟨w.heap.size,0,none⟩) len len) (.arr E0 sz0 ZE d0 l0):=by
 unfold tz at hp
 split at hp
 ·rename_i E hu
  split at hp
  ·rename_i z hz
   split at hp
   ·rename_i hc
    simp only[Uo,UH,Vv]at hc
    obtain⟨⟨⟨hk,XQ⟩,WN⟩,Xg⟩:=hc
    obtain⟨i,v,hi,hv,Ze,WE,hby⟩:=j9 hz
    split at hp
    ·rename_i cells hf
     have hzr:aU S μ w z v.cells:=by
      rw[Ze]
      refine⟨by simp,fun j y u hy hu=>?_⟩
      simp only[UJ,UY,hu,U4,UA]at hy
      subst hy
      exact aq.ofVal1 S μ w u
     have Zf:=tu (P:=P) hzr XQ (by omega) len
     obtain⟨vs,Yo,Yn⟩:=fS hH M' Wz _ cells _ h1 h2 Zf hf
     rw[← WE]at Yo
     have WH:=jw (P:=P) (w:=w) hu hi hv (by rw[WE];exact Xg) Yo
     have hcl:cells.length=len*aH P E:=by
      have:∀(M':List (Nat×D)) (c0 Yz:List D),im H (fun i=>some (i*aH P E,aH P E)) c0 M'=some Yz→Yz.length=c0.length:=by
       intro M'
       induction M' with
       | nil=>intro c0 Yz h;simp only[im,UA]at h;rw[h]
       | cons q r ih =>
        intro c0 Yz h
        obtain⟨k,x⟩:=q
        unfold im at h
        split at h
        ·split at h
         ·rename_i WV
          simp only[Uo,Vv]at WV
          rw[ih _ _ h]
          simp[gf]
          omega
         ·cases h
        ·cases h
      rw[this _ _ _ hf]
      simp[XQ]
     have WA:len≤maxLen:=by
      have:len*1≤len*aH P E:=V9 _ WN
      simp only[maxLen]
      omega
     simp only at hp
     split at hp
     ·rename_i hc
      simp only[Uo,UH]at hc
      obtain⟨rfl,rfl⟩:=hc
      simp only[Ux]at hp
      obtain⟨rfl,rfl⟩:=hp
      refine⟨vs,WH,?_⟩
      obtain⟨q1,q2⟩:=lP D'
      have hA:gR S (w.alloc (.cells vs E)) E (aH P E) (l0.map ZE) (.slice (some ⟨w.heap.size,0,none⟩) len len):=by
       refine vt Yn hcl WA (by rw[← q1];simp[qh]) (fun i x hx=>?_) hS
       obtain⟨r,hr,W0⟩:=q2 i x hx
       obtain⟨r1,r2⟩:=fU W0
       obtain⟨hin,rfl⟩:=kV _ _ _ hr
       refine⟨?_,fun j y hy=>?_⟩
       ·rw[← r1,UG,UW,hcl]
        have:(i+1)*aH P E≤len*aH P E:=UO _ hin
        rw[Vw]at this
        omega
       ·obtain⟨d,hd,hdy⟩:=r2 j y hy
        exact⟨d,lQ hr hd,fun u hu=>nG hdy hu⟩
      exact hA.box rfl
     ·cases hp;exact D'.elim
    ·cases hp;exact D'.elim
   ·cases hp;exact D'.elim
  ·cases hp;exact D'.elim
 ·cases hp;exact D'.elim
theorem Bm {H:List aC} {fz:Bool} {E sz:Nat} {α:Type} {enc:α→List V} {d:α} {l:List α} {kl:Option Nat} {q:Prop} {k:Mk} {p:Prop} (h:Ln H fz E sz enc d l kl q=some (k,p)) :
  p=q∧k.kl=kl∧((k.b=.arr E sz enc d l∧k.d=.own H.length)∨(k.b=.dead∧k.d=.v (.sl sz enc d l))):=by
 unfold Ln at h
 cases fz<;>simp only[UA,Ux]at h<;>obtain⟨rfl,rfl⟩:=h
 ·exact⟨rfl,rfl,.inl ⟨rfl,rfl⟩⟩
 ·exact⟨rfl,rfl,.inr ⟨rfl,rfl⟩⟩
theorem er {k:Mk} {p:Prop} (h:jx=some (k,p)):p=False:=by
 simp only[jx,UA,Ux]at h
 exact h.2.symm
theorem Bn {H:List aC} (hH:bz S μ w H) (hS:∀b,S b→b<w.heap.size) {fz:Bool} {E sz:Nat} {α:Type} {enc:α→List V} {d:α} {l:List α} {t ty:TypeId} {s x:D} {us ux:Value} (hs:aq S μ w s us) (hx:aq S μ w x ux) {k:Mk} {p:Prop}
  (hp:IA P H fz E sz enc d l t s x=some (k,p)) (D':p):∃u w',(Builtin.append_ #[t,t] ty #[us,ux]).run P w=.ok u w'∧NY S μ w H k u w':=by
 unfold IA at hp
 split at hp
 case h_2=>rw[er hp]at D';exact D'.elim
 rename_i E0 hu
 split at hp
 case h_2=>rw[er hp]at D';exact D'.elim
 rename_i z new hz W2
 split at hp
 case h_2=>rw[er hp]at D';exact D'.elim
 rename_i WV
 simp only[Uo,UH,Vv]at WV
 obtain⟨⟨⟨⟨hk,XQ⟩,WN⟩,hby1⟩,rfl,rfl⟩:=WV
 obtain⟨i,v,hi,hv,Ze,WE,hby⟩:=j9 hz
 have Yn:v.cells.size=i.size:=by rw[WE,← XQ,Ze];simp
 obtain⟨pa,c,WQ,rfl,n1,n2,n3,n4,n5,n6⟩:=nI hH WN W2 hx
 rw[← WE]at n2 n6 n5
 have bytes:∀k,k≤137438953472→k*i.bytes≤140737488355328:=by
  intro k hk
  have:k*i.bytes≤137438953472*1024:=Nat.mul_le_mul hk (by omega)
  omega
 split at hp
 ·rename_i id
  split at hp
  case h_2=>rw[er hp]at D';exact D'.elim
  rename_i E' W9 β ZE d0 l0 I'
  split at hp
  case h_2=>rw[er hp]at D';exact D'.elim
  rename_i ZY
  simp only[Uo,UH]at ZY
  obtain⟨⟨rfl,rfl⟩,hfx⟩:=ZY
  obtain⟨rfl,XL,hval⟩:=Bm hp
  obtain⟨WA,heq⟩:=D'
  have WX:=cj hs
  subst WX
  obtain⟨r0,xs,r1,r2⟩:=gR.of (hH.box id _ I')
  simp only[UB]at r1
  have hmax:l0.length+new.length≤maxLen:=by simp only[maxLen];omega
  obtain⟨v',w',WH,ho,hg,WB⟩:=eE (P:=P) (w:=w) t ty E' i v hu hi hv Yn (by rw[WE];exact r1) n1 n2 n3 n4 hmax (bytes _ WA)
  have V':(μ id).ownBlock=aO (μ id):=by
   obtain⟨p',c',hm,_⟩:=cN (hH.box id _ I')
   rw[hm]
   cases p'<;>rfl
  have Zb:∀b,S b→b<w.heap.size→w'.heap[b]?=w.heap[b]?:=fun b hb hl=>hg.block b hl (fun e=>hH.notS id _ b I' rfl (.inl (by rw[← V'];exact e.symm)) hb)
  have hA:gR S w' E' (aH P E') (l0.map ZE++new) v':=by
   rw[WE]at ho n2 n5 n6
   refine gR.append r0 (by rw[r1.1];simp) (fun k x j y hx hy=>?_) n5 (fun k x j y hx hy=>?_) (by simpa using ho)
   ·obtain⟨z,hz,hr⟩:=r2 k x j y hx hy
    exact⟨z,hz,hr.stable (fun _ h _=>h) Zb hg.size⟩
   ·obtain⟨z,hz,hr⟩:=n6 k x j y hx hy
    exact⟨z,hz,hr.stable (fun _ h _=>h) Zb hg.size⟩
  rw[heq]at hA
  have hB:aN S μ w' v' (.arr E' (aH P E') enc d l):=hA.box rfl
  have hv'b:∀b,cx v' b→aO (μ id)=some b∨w.heap.size≤b:=by
   intro b hb
   have hb:=hb.bl (by rcases ho.2 with ⟨rfl,_⟩ | ⟨g,cap,W1,rfl,_⟩<;>rfl)
   have Zx:v'.ownBlock=aO v':=by
    rcases ho.2 with ⟨rfl,_⟩ | ⟨g,cap,W1,rfl,_⟩<;>rfl
   rcases WB with WB | WB
   ·exact .inl (by rw[← V',← WB,Zx];exact hb)
   ·rw[Zx,hb]at WB
    cases WB
    exact .inr (Ut _)
  refine⟨v',w',WH,.inr ⟨id,_,_,XL,I',rfl,rfl,by rw[← V'];exact hg,hB,hv'b,?_⟩⟩
  rcases hval with ⟨e1,e2⟩ | ⟨e1,e2⟩
  ·exact .inl ⟨e1,e2⟩
  ·exact .inr ⟨_,_,_,_,_,_,rfl,e1,e2⟩
 ·obtain⟨rfl,XL,hval⟩:=Bm hp
  obtain⟨WA,heq⟩:=D'
  cases hs
  obtain⟨v',w',WH,ho,hg,WB⟩:=eE (P:=P) (w:=w) t ty E i v hu hi hv Yn (VS w 0 E i.size) n1 n2 n3 n4 (by simp only[maxLen];omega) (bytes _ (by omega))
  have hg':w.grownBy w' none:=hg
  have Zb:∀b,S b→b<w.heap.size→w'.heap[b]?=w.heap[b]?:=fun b hb hl=>hg'.block b hl (by simp)
  have hA:gR S w' E (aH P E) ([]++new) v':=by
   rw[WE]at ho n2 n5 n6
   refine gR.append (xs:=[]) (fun k x hx=>by simp at hx) (by simp) (fun k x j y hx=>by simp at hx) n5 (fun k x j y hx hy=>?_) (by simpa using ho)
   obtain⟨z,hz,hr⟩:=n6 k x j y hx hy
   exact⟨z,hz,hr.stable (fun _ h _=>h) Zb hg'.size⟩
  rw[V6,heq]at hA
  have hB:aN S μ w' v' (.arr E (aH P E) enc d l):=hA.box rfl
  have hvb:∀b,cx v' b→w.heap.size≤b:=by
   intro b hb
   have hb:=hb.bl (by rcases ho.2 with ⟨rfl,_⟩ | ⟨g,cap,W1,rfl,_⟩<;>rfl)
   have Zx:v'.ownBlock=aO v':=by
    rcases ho.2 with ⟨rfl,_⟩ | ⟨g,cap,W1,rfl,_⟩<;>rfl
   rcases WB with WB | WB
   ·rw[Zx,hb]at WB;cases WB
   ·rw[Zx,hb]at WB;cases WB;exact Ut _
  have Yj:Below w.heap.size w w':=⟨hg'.os,hg'.tape,hg'.output,hg'.size,fun k hk=>hg'.block k hk (by simp)⟩
  refine⟨v',w',WH,.inl ⟨XL,Yj,?_⟩⟩
  rcases hval with ⟨e1,e2⟩ | ⟨e1,e2⟩
  ·refine .inr (.inr ⟨S,μ,v',by rw[e1];rfl,fun _ h=>h,fun _ h=>.inl h,fun b hb=>Vl (hS b hb) hg'.size,by rw[e1];exact hB,?_,fun b hb=>⟨hvb b hb,fun hSb=>by have:=hS b hSb;have:=hvb b hb;omega⟩⟩)
   rw[e2]
   have:=aq.own (S:=S) (μ:=br μ H.length v') (w:=w') H.length
   rwa [aG]at this
  ·refine .inl ⟨e1,?_⟩
   rw[e2]
   exact .v _ _ (j6 (S':=fun b=>S b∨w.heap.size≤b) hB (fun b hb=>Or.inl hb) (fun b hb=>Or.inr (hvb b hb)) (fun b hb=>Vl (hS b hb) hg'.size))
 ·rw[er hp]at D';exact D'.elim
theorem Bo {H:List aC} (hH:bz S μ w H) (hS:∀b,S b→b<w.heap.size) (hG:gG S w) {ρ:Operand→D} {ρ':Operand→Value} (hρ:∀x,aq S μ w (ρ x) (ρ' x)) {ov:Ov} {o:Oper} {k:Mk} {p:Prop} (hp:IB P H ρ ov o.op=some (k,p)) (D':p)
  {R:Value→World→Prop} (hR:∀u w',NY S μ w H k u w'→R u w'):qa P R ((execOp ρ' o).run P w):=by
 unfold IB at hp
 split at hp
 ·rename_i f args Zw ho
  split at hp
  ·rename_i q' r B g first cap hf
   split at hp
   ·rename_i hc
    simp only[Uo]at hc
    obtain⟨Zg,hr,hBA,Xu⟩:=hc
    simp only[UA,Ux]at hp
    obtain⟨rfl,rfl⟩:=hp
    have Ya:=hf ▸ hρ f
    generalize XR:ρ' f=uf at Ya
    cases Ya with
    | fn _ _ _ us vs h1 h2 h3 h4 =>
     have WH:(execOp ρ' o).run P w=.ok (.enter g (us++args.map ρ'++vs)) w:=by
      simp[execOp,ho,resolve,XR,Deferred.ofValue,invoke,ct Zg]
     rw[WH]
     have X1:aU S μ w (args.toList.map ρ) (args.map ρ'):=by
      refine⟨by simp,fun j y z hy hz=>?_⟩
      simp only[UJ,UY,VA]at hy hz
      cases hj:args[j]? with
      | none=>rw[hj]at hy;cases hy
      | some x=>rw[hj]at hy hz;simp at hy hz;subst hy hz;exact hρ x
     have hall:=aU.app (aU.app ⟨h1,h2⟩ X1) ⟨h3,h4⟩
     obtain⟨ZZ,hc',hus'⟩:∃ZZ,ah P g ZZ [] false r [B]∧aU S μ w ZZ (us++args.map ρ'++vs):=by
      cases q' with
      | none=>exact⟨_,D',hall⟩
      | some q'=>exact⟨q',D'.2,oP hH (fun _ h=>h) hS (.inr Xu) D'.1 hall⟩
     refine qa.enter ((hc' S μ w _ hS hG ⟨fun id B hB=>by simp at hB,fun i j A B b hA=>by simp at hA,fun i A b hA=>by simp at hA⟩ hus').mono ?_)
     rintro e w' ⟨u,μ',S',rfl,q1,q2,q3,q4,q5,q6,q7,q8,q9,q10,q11,_⟩
     have hl:B.live=true:=by cases B<;>first | rfl | cases hBA
     refine⟨u,rfl,hR u w' (.inl ⟨rfl,⟨q1,q2,q3,q4,fun k hk=>q5 k hk (fun i A hA=>by simp at hA)⟩,.inr (.inr ⟨S',μ',μ' 0,hBA,q6,q7,q8,q10.box 0 B rfl,De q9 hr (aG _ _ _),fun b hb=>⟨?_,q10.notS 0 B b rfl hl hb⟩⟩)⟩)⟩
     rcases q11 0 B b rfl hl hb with hb | ⟨j,A',Xf,_⟩
     ·exact hb
     ·simp at Xf
   ·rw[er hp]at D';exact D'.elim
  ·cases hp
 ·rename_i args Zw ho
  split at hp
  ·rename_i fz E sz α enc d l s x t t' ha ht
   split at hp
   ·rename_i hc
    rw[UH]at hc
    subst hc
    have ea:args=#[s,x]:=V7 (by simpa using ha)
    have et:Zw=#[t,t]:=V7 (by simpa using ht)
    subst ea et
    obtain⟨u,w',h1,h2⟩:=Bn (ty:=o.type) hH hS (hρ s) (hρ x) hp D'
    refine qa.of (v:=u) (w':=w') ?_ (hR u w' h2)
    simp only[execOp,ho,resolve,invoke,builtin,VX,Vn,VL,Uv,UL,Uu,h1]
   ·rw[er hp]at D';exact D'.elim
  ·cases hp
 ·rename_i t len M' ho
  split at hp
  ·rename_i E sz α enc d l
   split at hp
   ·rename_i y q hq
    simp only[UA,Ux]at hp
    obtain⟨rfl,rfl⟩:=hp
    obtain⟨vs,h1,h2⟩:=Dt hH (Wz:=M'.toList.map fun p=>(p.1,ρ' p.2)) (by simp) (fun j x u hx hu=>by
     simp only[UJ,UY]at hx hu
     cases hj:M'[j]? with
     | none=>rw[hj]at hx;cases hx
     | some q=>rw[hj]at hx hu;simp at hx hu;subst hx hu;exact hρ q.2) hS hq D' ⟨_,rfl⟩
    have he:M'.map (fun (i,x)=>(i,ρ' x))=(M'.toList.map fun p=>(p.1,ρ' p.2)).toArray:=V7 (by simp)
    rw[← he]at h1
    refine qa.of (v:=.slice (some ⟨w.heap.size,0,none⟩) len len) (w':=w.alloc (.cells vs E)) ?_ (hR _ _ (.inl ⟨rfl,(Wm _ _).alloc (Ut _) _,.inr (.inl ⟨_,rfl,rfl,h2.arrMu rfl,?_,fun b hb=>by simp[cx,aO]at hb;exact hb.symm⟩)⟩))
    ·simp only[execOp,ho,Uv,h1,Uu,UL]
    ·have:=aq.own (S:=S) (μ:=br μ H.length (Value.slice (some ⟨w.heap.size,0,none⟩) len len)) (w:=w.alloc (.cells vs E)) H.length
     rwa [aG]at this
   ·rw[er hp]at D';exact D'.elim
  ·cases hp
 ·cases hp
theorem Du {H:List aC} (hH:bz S μ w H) (hS:∀b,S b→b<w.heap.size) (hG:gG S w) {ρ:Operand→D} {ρ':Operand→Value} (hρ:∀x,aq S μ w (ρ x) (ρ' x)) {ov:Ov} {o:Oper} {k:Mk} {p:Prop} (hp:Lo P H ρ ov o.op=(k,p)) (D':p)
  {R:Value→World→Prop} (hR:∀u w',NY S μ w H k u w'→R u w'):qa P R ((execOp ρ' o).run P w):=by
 unfold Lo at hp
 split at hp
 ·rename_i T ho
  split at hp
  ·rename_i z hz
   split at hp
   case h_2=>cases hp;exact D'.elim
   rename_i YQ
   simp only[Ux]at hp
   obtain⟨rfl,rfl⟩:=hp
   obtain⟨v,YA,Zc⟩:=io (P:=P) (S:=S) (μ:=μ) (w:=w) hz
   refine qa.of (v:=.pointer (some ⟨w.heap.size,0,none⟩)) (w':=w.alloc (.cells v.cells T)) ?_ (hR _ _ (.inl ⟨rfl,(Wm _ _).alloc (Ut _) _,.inr (.inl ⟨_,rfl,rfl,?_,?_,fun b hb=>by simp[cx,aO]at hb;exact hb.symm⟩)⟩))
   ·simp[execOp,ho,Instr.alloc,Uv,YA,newVar,newRow,newObj,Sem.run]
   ·refine⟨w.heap.size,v.cells,rfl,Vx w _,Zc.1,fun j y x hy hx=>?_⟩
    exact(Zc.2 j y x hy hx).stable (fun _ h _=>h) (fun b hb hl=>VD w _ b hl) (by simp) (fun id WG=>aP _ _ (fun e=>by rw[e,D.freeL_get YQ hy]at WG;cases WG))
   ·exact .ptr _ 0 0 0 _ (by rw[aG];rfl)
  ·cases hp;exact D'.elim
 ·rename_i T x ho
  split at hp
  ·rename_i cs hcs
   split at hp
   case h_2=>cases hp;exact D'.elim
   rename_i YQ
   simp only[Ux]at hp
   obtain⟨rfl,rfl⟩:=hp
   have Zc:=iZ hH (hρ x) hcs
   refine qa.of (v:=.pointer (some ⟨w.heap.size,0,none⟩)) (w':=w.alloc (.cells (ρ' x).cells T)) ?_ (hR _ _ (.inl ⟨rfl,(Wm _ _).alloc (Ut _) _,.inr (.inl ⟨_,rfl,rfl,?_,?_,fun b hb=>by simp[cx,aO]at hb;exact hb.symm⟩)⟩))
   ·simp[execOp,ho,Instr.box,newVar,newRow,newObj,Sem.run]
   ·refine⟨w.heap.size,(ρ' x).cells,rfl,Vx w _,Zc.1,fun j y x hy hx=>?_⟩
    exact(Zc.2 j y x hy hx).stable (fun _ h _=>h) (fun b hb hl=>VD w _ b hl) (by simp) (fun id WG=>aP _ _ (fun e=>by rw[e,D.freeL_get YQ hy]at WG;cases WG))
   ·exact .ptr _ 0 0 0 _ (by rw[aG];rfl)
  ·cases hp;exact D'.elim
 ·rename_i t l c ho
  split at hp
  ·rename_i E kl n kc m hu Yr hc0
   split at hp
   ·rename_i z hz
    split at hp
    ·rename_i WV
     simp only[Uo,UH,Vv]at WV
     obtain⟨⟨⟨hk,XQ⟩,WN⟩,hby1⟩:=WV
     obtain⟨i,v,hi,hv,Ze,WE,hby⟩:=j9 hz
     have hl:=hρ l
     have hc:=hρ c
     rw[Yr]at hl
     rw[hc0]at hc
     have YE:(0≤n∧n≤m∧m≤137438953472)→(execOp ρ' o).run P w=.ok (.value (.slice (some ⟨w.heap.size,0,none⟩) n.toNat m.toNat)) (w.alloc (.cells (madeCells v.cells (m.toNat*i.size)) E)):=by
      rintro⟨h0,XX,hm⟩
      have hbm:(i.bytes:Int)*m≤281474976710656:=by
       have h9:(i.bytes:Int)≤1024:=by omega
       have:(i.bytes:Int)*m≤1024*m:=Int.mul_le_mul_of_nonneg_right h9 (by omega)
       omega
      have WH:=run_make (P:=P) w t E i v hu hi hv kl kc n m h0 XX hbm (by omega)
      rw[← b6 hl,← b6 hc]at WH
      simp only[execOp,ho,Uv,WH,Uu,UL]
     split at hp
     ·rename_i E' W9 α WF d' l'
      split at hp
      ·rename_i ZY
       simp only[Uo,UH]at ZY
       obtain⟨rfl,rfl⟩:=ZY
       simp only[Ux]at hp
       obtain⟨rfl,rfl⟩:=hp
       obtain⟨XX,WA,X9⟩:=D'
       refine qa.of (YE XX) (hR _ _ (.inl ⟨rfl,(Wm _ _).alloc (Ut _) _,.inr (.inl ⟨_,rfl,rfl,Bl hz hi hv Ze WE XQ WN XX.1 XX.2.1 XX.2.2 WA X9,?_,fun b hb=>by simp[cx,aO]at hb;exact hb.symm⟩)⟩))
       have:=aq.own (S:=S) (μ:=br μ H.length (Value.slice (some ⟨w.heap.size,0,none⟩) n.toNat m.toNat)) (w:=w.alloc (.cells (madeCells v.cells (m.toNat*i.size)) E)) H.length
       rwa [aG]at this
      ·cases hp;exact D'.elim
     ·rename_i E' W9 α WF d' l'
      split at hp
      ·rename_i ZY
       simp only[Uo,UH]at ZY
       obtain⟨rfl,rfl⟩:=ZY
       simp only[Ux]at hp
       obtain⟨rfl,rfl⟩:=hp
       obtain⟨XX,WA,X9⟩:=D'
       have hB:aN S μ (w.alloc (.cells (madeCells v.cells (m.toNat*i.size)) E)) (.slice (some ⟨w.heap.size,0,none⟩) n.toNat m.toNat) (.arr E (aH P E) WF d' l'):=Bl hz hi hv Ze WE XQ WN XX.1 XX.2.1 XX.2.2 WA X9
       refine qa.of (YE XX) (hR _ _ (.inl ⟨rfl,(Wm _ _).alloc (Ut _) _,.inl ⟨rfl,.v _ _ (j6 (S':=fun b=>S b∨w.heap.size≤b) hB (fun b hb=>Or.inl hb) (fun b hb=>Or.inr (by simp[cx,aO]at hb;omega)) (fun b hb=>by have:=hS b hb;simp;omega))⟩⟩))
      ·cases hp;exact D'.elim
     ·cases hp;exact D'.elim
    ·cases hp;exact D'.elim
   ·cases hp;exact D'.elim
  ·cases hp;exact D'.elim
 ·rename_i t ho
  split at hp
  ·rename_i t' ag α enc d l
   split at hp
   ·simp only[Ux]at hp
    obtain⟨rfl,rfl⟩:=hp
    refine qa.of (v:=.map (some w.heap.size)) (w':=w.alloc (.map #[] 0)) ?_ (hR _ _ (.inl ⟨rfl,(Wm _ _).alloc (Ut _) _,.inr (.inl ⟨_,rfl,rfl,?_,?_,fun b hb=>by simp[cx,aO]at hb;exact hb.symm⟩)⟩))
    ·simp[execOp,ho,Instr.makeMap,newObj,Sem.run]
    ·exact⟨w.heap.size,#[],0,rfl,Vx w _,rfl,fun i k x hx=>by simp at hx⟩
    ·have:=aq.own (S:=S) (μ:=br μ H.length (.map (some w.heap.size))) (w:=w.alloc (.map #[] 0)) H.length
     rwa [aG]at this
   ·cases hp;exact D'.elim
  ·cases hp;exact D'.elim
 ·rename_i h1 h2 h3 h4
  split at hp
  ·rename_i q hq
   obtain⟨k',p'⟩:=q
   simp only[Ux]at hp
   obtain⟨rfl,rfl⟩:=hp
   exact Bo hH hS hG hρ hq D' hR
  generalize hq:Rn P H ρ ov o.op=q at hp
  obtain⟨d,q⟩:=q
  simp only[Ux]at hp
  obtain⟨rfl,rfl⟩:=hp
  refine G1 hH hS hG hρ hq D' ?_ (fun u w' hb hd=>hR u w' (.inl ⟨rfl,hb,.inl ⟨rfl,hd⟩⟩))
  unfold NV
  split
  ·rename_i T ho;exact(h1 T ho).elim
  ·rfl
end
def NZ:List Bool→List Bool→List Bool
 | a::q',b::bs=>(a||b)::NZ q' bs
 | [],bs=>bs
 | q',[]=>q'
def xZ:Nat→List Bool
 | 0=>[true]
 | n+1=>false::xZ n
def i3 (L':List (List Bool)):List Edge→List Bool
 | []=>[]
 | e::r=>if Region.binds .any e then NZ (NZ (xZ e.on) (L'.getD e.on [])) (i3 L' r)else i3 L' r
theorem zD:∀(a b:List Bool) (j:Nat),(NZ a b).getD j false=(a.getD j false||b.getD j false)
 | a::q',b::bs,0=>rfl
 | a::q',b::bs,j+1=>by simpa[NZ]using zD q' bs j
 | [],bs,j=>by simp[NZ]
 | a::q',[],j=>by simp[NZ]
theorem x4:∀(n j:Nat),(xZ n).getD j false=true→j=n
 | 0,0,_=>rfl
 | 0,j+1,h=>by simp[xZ]at h
 | n+1,0,h=>by simp[xZ]at h
 | n+1,j+1,h=>by have:=x4 n j (by simpa[xZ]using h);omega
theorem rT {L':List (List Bool)} {j:Nat}:∀{es:List Edge},(i3 L' es).getD j false=true→∃e∈es,Region.binds .any e=true∧(j=e.on∨(L'.getD e.on []).getD j false=true)
 | [],h=>by simp[i3]at h
 | e::r,h=>by
  unfold i3 at h
  split at h
  ·rename_i hb
   rw[zD,zD]at h
   simp only[U3]at h
   rcases h with (h | h) | h
   ·exact⟨e,UX ..,hb,.inl (x4 _ _ h)⟩
   ·exact⟨e,UX ..,hb,.inr h⟩
   ·obtain⟨e',h1,h2⟩:=rT h
    exact⟨e',UT _ h1,h2⟩
  ·obtain⟨e',h1,h2⟩:=rT h
   exact⟨e',UT _ h1,h2⟩
def m5:List Oper→List Mk→List Bool→List (Nat×D)
 | o::os,k::ks,b::bs=>match b,o.dst with
  | true,some t=>(t,k.d)::m5 os ks bs
  | _,_=>m5 os ks bs
 | _,_,_=>[]
def kG (id:Nat):List Mk→List Bool→Bool
 | k::ks,true::bs=>(match k.kil with | some i=>Nat.beq i id | none=>false)||kG id ks bs
 | _::ks,false::bs=>kG id ks bs
 | _,_=>false
def kW (id:Nat) (bs:List Bool):Nat→List Mk→Option aC
 | _,[]=>none
 | p,k::ks=>match k.fil,bs.getD p false with
  | some i,true=>(match Nat.beq i id with | true=>some k.b | false=>kW id bs (p+1) ks)
  | _,_=>kW id bs (p+1) ks
def kX (id:Nat) (ks:List Mk) (bs:List Bool):Option aC:=kW id bs 0 ks
def PZ (Zy:List Mk) (Zz:List Bool) (id:Nat) (k:Mk):aC:=match kG id Zy Zz,k.fil,kX id Zy Zz with
 | false,none,some B=>B
 | false,none,none=>k.b
 | _,_,_=>.dead
def jy (Zy:List Mk) (Zz:List Bool):Nat→List Mk→List Bool→List aC
 | _,[],_=>[]
 | id,_::ks,[]=>.dead::jy Zy Zz (id+1) ks []
 | id,k::ks,true::bs=>PZ Zy Zz id k::jy Zy Zz (id+1) ks bs
 | id,_::ks,false::bs=>.dead::jy Zy Zz (id+1) ks bs
def d8 (n0:Nat) (ks:List Mk) (bs:List Bool):List aC:=jy ks bs n0 ks bs
theorem gT {id:Nat} {bs:List Bool} {B:aC}:∀{ks:List Mk} {p0:Nat},kW id bs p0 ks=some B→∃(p:Nat) (k:Mk),ks[p]?=some k∧bs.getD (p0+p) false=true∧k.fil=some id∧B=k.b
 | [],p0,h=>by simp[kW]at h
 | k::ks,p0,h=>by
  unfold kW at h
  have go:kW id bs (p0+1) ks=some B→∃(p:Nat) (k':Mk),(k::ks)[p]?=some k'∧bs.getD (p0+p) false=true∧k'.fil=some id∧B=k'.b:=fun h=>by
   obtain⟨p,k',h1,h2,h3⟩:=gT h
   exact⟨p+1,k',by simpa using h1,by rw[show p0+(p+1)=p0+1+p by omega];exact h2,h3⟩
  split at h
  ·rename_i i hf hb
   split at h
   ·rename_i he
    rw[UH]at he
    cases h
    exact⟨0,k,rfl,hb,by rw[hf,he],rfl⟩
   ·exact go h
  ·exact go h
theorem lV {id:Nat} {bs:List Bool}:∀{ks:List Mk} {p0:Nat},kW id bs p0 ks=none→∀(p:Nat) (k:Mk),ks[p]?=some k→bs.getD (p0+p) false=true→k.fil=some id→False
 | [],p0,h,p,k,h1,_,_=>by simp at h1
 | k'::ks,p0,h,p,k,h1,h2,h3=>by
  unfold kW at h
  cases p with
  | zero =>
   simp at h1;subst h1
   rw[h3,show bs.getD p0 false=true from h2]at h
   simp at h
  | succ p =>
   have h4:kW id bs (p0+1) ks=none:=by
    split at h
    ·split at h
     ·cases h
     ·exact h
    ·exact h
   exact lV h4 p k (by simpa using h1) (by rw[show p0+1+p=p0+(p+1) by omega];exact h2) h3
theorem uE {id:Nat} {bs bs':List Bool}:∀{ks:List Mk} {p0:Nat},(∀(p:Nat) (k:Mk),ks[p]?=some k→k.fil=some id→bs.getD (p0+p) false=bs'.getD (p0+p) false)→kW id bs p0 ks=kW id bs' p0 ks
 | [],p0,h=>rfl
 | k::ks,p0,h=>by
  have ih:=uE (id:=id) (bs:=bs) (bs':=bs') (ks:=ks) (p0:=p0+1) (fun p k' h1 h2=>by
   have:=h (p+1) k' (by simpa using h1) h2
   rwa [show p0+(p+1)=p0+1+p by omega]at this)
  unfold kW
  cases hf:k.fil with
  | none=>simp only;exact ih
  | some i =>
   by_cases e:i=id
   ·have:=h 0 k rfl (by rw[hf,e])
    rw[VM]at this
    rw[this]
    subst e
    cases bs'.getD p0 false
    ·exact ih
    ·simp
   ·have e2:Nat.beq i id=false:=by
     cases hb:Nat.beq i id
     ·rfl
     ·rw[UH]at hb;exact(e hb).elim
    cases bs.getD p0 false<;>cases bs'.getD p0 false<;>simp only[e2]<;>exact ih
theorem rU {id:Nat}:∀{ks:List Mk} {bs:List Bool},kG id ks bs=true→∃(p:Nat) (k:Mk),ks[p]?=some k∧bs.getD p false=true∧k.kil=some id
 | [],bs,h=>by simp[kG]at h
 | k::ks,[],h=>by simp[kG]at h
 | k::ks,true::bs,h=>by
  unfold kG at h
  rw[U3]at h
  rcases h with h | h
  ·split at h
   ·rename_i i hk;rw[UH]at h;exact⟨0,k,rfl,rfl,by rw[hk,h]⟩
   ·cases h
  ·obtain⟨p,k',h1,h2,h3⟩:=rU h
   exact⟨p+1,k',h1,h2,h3⟩
 | k::ks,false::bs,h=>by
  unfold kG at h
  obtain⟨p,k',h1,h2,h3⟩:=rU h
  exact⟨p+1,k',h1,h2,h3⟩
theorem vw {id:Nat}:∀{ks:List Mk} {bs:List Bool} {p:Nat} {k:Mk},ks[p]?=some k→bs.getD p false=true→k.kil=some id→kG id ks bs=true
 | [],bs,p,k,h,_,_=>by simp at h
 | k'::ks,[],p,k,_,h,_=>by simp at h
 | k'::ks,b::bs,0,k,h1,h2,h3=>by
  simp at h1 h2
  subst h1 h2
  unfold kG
  rw[h3]
  simp
 | k'::ks,b::bs,p+1,k,h1,h2,h3=>by
  have:=vw (ks:=ks) (bs:=bs) (p:=p) (by simpa using h1) (by simpa using h2) h3
  cases b
  ·unfold kG;exact this
  ·unfold kG;rw[this,Bool.or_true]
theorem gU {t:Nat} {d:D}:∀{os:List Oper} {ks:List Mk} {bs:List Bool},(t,d)∈m5 os ks bs→∃(j:Nat) (o:Oper) (k:Mk),os[j]?=some o∧ks[j]?=some k∧bs.getD j false=true∧o.dst=some t∧d=k.d
 | o::os,k::ks,b::bs,h=>by
  unfold m5 at h
  split at h
  ·rename_i t' hd
   rcases Vh.1 h with h | h
   ·cases h;exact⟨0,o,k,rfl,rfl,rfl,hd,rfl⟩
   ·obtain⟨j,o',k',h1⟩:=gU h;exact⟨j+1,o',k',h1⟩
  ·obtain⟨j,o',k',h1⟩:=gU h;exact⟨j+1,o',k',h1⟩
 | [],_,_,h=>by simp[m5]at h
 | _::_,[],_,h=>by simp[m5]at h
 | _::_,_::_,[],h=>by simp[m5]at h
theorem oU:∀{os:List Oper} {ks:List Mk} {bs:List Bool} (j:Nat) {o:Oper} {k:Mk} {t:Nat},os[j]?=some o→ks[j]?=some k→bs.getD j false=true→o.dst=some t→(t,k.d)∈m5 os ks bs
 | o::os,k::ks,b::bs,0,o',k',t,h1,h2,h3,h4=>by
  simp at h1 h2 h3;subst h1 h2 h3
  unfold m5
  rw[h4]
  exact UX ..
 | o::os,k::ks,b::bs,j+1,o',k',t,h1,h2,h3,h4=>by
  have:=oU (os:=os) (ks:=ks) (bs:=bs) j (by simpa using h1) (by simpa using h2) (by simpa using h3) h4
  unfold m5
  split
  ·exact UT _ this
  ·exact this
 | [],_,_,_,_,_,_,h1,_,_,_=>by simp at h1
 | _::_,[],_,_,_,_,_,_,h2,_,_=>by simp at h2
 | _::_,_::_,[],_,_,_,_,_,_,h3,_=>by simp at h3
theorem i4 {Zy:List Mk} {Zz:List Bool}:∀(n:Nat) (ks:List Mk) (bs:List Bool),(jy Zy Zz n ks bs).length=ks.length
 | _,[],_=>rfl
 | n,_::ks,[]=>by simp[jy,i4 (n+1) ks]
 | n,_::ks,true::bs=>by simp[jy,i4 (n+1) ks]
 | n,_::ks,false::bs=>by simp[jy,i4 (n+1) ks]
theorem eu (n:Nat) (ks:List Mk) (bs:List Bool):(d8 n ks bs).length=ks.length:=i4 _ _ _
theorem oV {Zy:List Mk} {Zz:List Bool}:∀(n:Nat) (ks:List Mk) (bs:List Bool) (j:Nat) (k:Mk),ks[j]?=some k→(jy Zy Zz n ks bs)[j]?=some (if bs.getD j false=true then PZ Zy Zz (n+j) k else .dead)
 | n,_::ks,[],0,k,h=>by simp[jy]
 | n,_::ks,[],j+1,k,h=>by simpa[jy]using oV (n+1) ks [] j k (by simpa using h)
 | n,k'::ks,true::bs,0,k,h=>by
  simp at h;subst h
  simp[jy]
 | n,_::ks,true::bs,j+1,k,h=>by
  have:=oV (Zy:=Zy) (Zz:=Zz) (n+1) ks bs j k (by simpa using h)
  rw[show n+1+j=n+(j+1) by omega]at this
  simpa[jy]using this
 | n,_::ks,false::bs,0,k,h=>by simp[jy]
 | n,_::ks,false::bs,j+1,k,h=>by
  have:=oV (Zy:=Zy) (Zz:=Zz) (n+1) ks bs j k (by simpa using h)
  rw[show n+1+j=n+(j+1) by omega]at this
  simpa[jy]using this
 | _,[],_,_,_,h=>by simp at h
theorem oW (n:Nat) (ks:List Mk) (bs:List Bool) (j:Nat) (k:Mk) (h:ks[j]?=some k):(d8 n ks bs)[j]?=some (if bs.getD j false=true then PZ ks bs (n+j) k else .dead):=oV n ks bs j k h
theorem lW {n:Nat} {ks:List Mk} {bs:List Bool} {j:Nat} {k:Mk} {B:aC} (h:ks[j]?=some k) (hB:(d8 n ks bs)[j]?=some B) :
  B=.dead∨(bs.getD j false=true∧kG (n+j) ks bs=false∧k.fil=none∧((kX (n+j) ks bs=none∧B=k.b)∨kX (n+j) ks bs=some B)):=by
 rw[oW _ _ _ _ _ h]at hB
 split at hB
 ·rename_i hb
  simp only[UA]at hB
  unfold PZ at hB
  split at hB
  ·rename_i B0 h1 h2 h3;exact .inr ⟨hb,h1,h2,.inr (by rw[h3,hB])⟩
  ·rename_i h1 h2 h3;exact .inr ⟨hb,h1,h2,.inl ⟨h3,hB.symm⟩⟩
  ·exact .inl hB.symm
 ·cases hB;exact .inl rfl
theorem wo {n:Nat} {ks:List Mk} {bs:List Bool} {j:Nat} {k:Mk} {B:aC} (h:ks[j]?=some k) (h1:bs.getD j false=true) (h2:kG (n+j) ks bs=false) (h3:k.fil=none) (h4:(kX (n+j) ks bs=none∧B=k.b)∨kX (n+j) ks bs=some B) :
  (d8 n ks bs)[j]?=some B:=by
 rw[oW _ _ _ _ _ h,Uw h1]
 unfold PZ
 rw[h2,h3]
 rcases h4 with ⟨h5,rfl⟩ | h5
 ·rw[h5]
 ·rw[h5]
def x5 (os:List Oper):List (Nat×D)→List (Nat×D)
 | []=>[]
 | (t,d)::r=>if os.any (fun o=>match o.dst with | some s=>Nat.beq s t | none=>false)then x5 os r else (t,d)::x5 os r
theorem kY {os:List Oper} {t:Nat} {d:D}:∀{env:List (Nat×D)},(t,d)∈x5 os env→(t,d)∈env∧∀o∈os,o.dst≠some t
 | (s,e)::r,h=>by
  unfold x5 at h
  split at h
  ·obtain⟨h1,h2⟩:=kY h;exact⟨UT _ h1,h2⟩
  ·rename_i hn
   rcases Vh.1 h with h | h
   ·cases h
    refine⟨UX ..,fun o ho he=>hn ?_⟩
    rw[VY]
    exact⟨o,ho,by rw[he];simp⟩
   ·obtain⟨h1,h2⟩:=kY h;exact⟨UT _ h1,h2⟩
def ff (os:List Oper) (st:St) (ks:List Mk) (anc:List Bool):St:=⟨x5 os st.env++m5 os ks anc,st.heap++d8 st.heap.length ks anc⟩
def Lr (P:Program) (ops os:List Oper) (st:St) (WS:List (Nat×Ov)):Nat→List Oper→List (List Bool)→List Mk→(List (List Bool)→List Mk→Prop)→Prop
 | _,[],L',ks,K=>K L' ks
 | i,o::r,L',ks,K =>
  match gS ops (ff os st ks (i3 L' o.after.toList)) o with
  | some true=>match wn P (ff os st ks (i3 L' o.after.toList)).heap (fF (ff os st ks (i3 L' o.after.toList)).env) (qN WS i) o.op with
   | (k,p)=>p∧nD k.d (fun d=>nB k.b (fun b=>nK k.kl (fun kl=>Lr P ops os st WS (i+1) r (L'++[i3 L' o.after.toList]) (ks++[.make d b kl]) K)))
  | some false=>Lr P ops os st WS (i+1) r (L'++[i3 L' o.after.toList]) (ks++[oT (.tup []) .dead]) K
  | none=>False
def nM (st:St) (n0:Nat):Nat→List (List Bool)→List Mk→List (List Bool)→List Mk→Bool
 | i,a::q',k::ks,L',mks=>(match k.b,k.kl with
   | .dead,none=>true
   | _,_=>cE (n0+i) st.env&&cF (n0+i) st.heap&&freeM i (n0+i) 0 L' mks)&&nM st n0 (i+1) q' ks L' mks
 | _,_,_,_,_=>true
where freeM (i id:Nat):Nat→List (List Bool)→List Mk→Bool
 | j,a::q',k::ks=>(Nat.beq j i||a.getD i false||(D.free id k.d&&aC.free id k.b))&&freeM i id (j+1) q' ks
 | _,_,_=>true
def Bp:List Oper→Bool
 | []=>true
 | o::r=>(match o.dst with | some t=>r.all (fun o'=>match o'.dst with | some s=>!(Nat.beq s t) | none=>true) | none=>true)&&Bp r
def rV (nt:Nat):List Oper→Bool
 | []=>true
 | o::r=>(match o.dst with | some t=>Nat.blt t nt&&!(lU o.op) | none=>lU o.op)&&rV nt r
def zE:uv:={ K:=fun _=>.grow,F:=fun _ _ _ _=>True,ins:=fun _=>[] }
def N0 (nt:Nat) (ops:List Oper) (m:Nat):Bool :=
 NN ops.toArray zE ⟨Array.replicate nt undef,[]⟩&&Ez ops.toArray m&&rV nt (ops.take m)&&Bp (ops.take m)&&ops.all (fun o=>!eN o)
def qP (n0:Nat) (L':List (List Bool)) (ks:List Mk):Bool:=(List.range ks.length).all fun p=>match (ks.getD p (oT .junk .dead)).kl with
 | none=>true
 | some id=>Nat.ble n0 id&&(L'.getD p []).getD (id-n0) false&&((List.range ks.length).all fun i=>Nat.beq i p||!((L'.getD i []).getD (id-n0) false)||(L'.getD i []).getD p false||(L'.getD p []).getD i false)&&(List.range ks.length).all fun i=>Nat.beq i p||(match (ks.getD i (oT .junk .dead)).kl with | some j=>!(Nat.beq j id) | none=>true)
theorem jz {n0:Nat} {L':List (List Bool)} {ks:List Mk} (h:qP n0 L' ks=true) {p:Nat} {k:Mk} (hp:ks[p]?=some k) {id:Nat} (hk:k.kl=some id) :
  n0≤id∧(L'.getD p []).getD (id-n0) false=true∧∀i,i<ks.length→i≠p→(L'.getD i []).getD (id-n0) false=true→(L'.getD i []).getD p false=true∨(L'.getD p []).getD i false=true:=by
 unfold qP at h
 rw[UU]at h
 have Yg:p<ks.length:=(Up.1 hp).1
 have h1:=h p (Va.2 Yg)
 have e:ks.getD p (oT .junk .dead)=k:=by rw[List.getD,hp];rfl
 rw[e,hk]at h1
 simp only[Uo]at h1
 have h1:=h1.1
 simp only[Vv,UU,Va,U3,UH,U2]at h1
 refine⟨h1.1.1,h1.1.2,fun i hi Xt ha=>?_⟩
 rcases h1.2 i hi with ((h2 | h2) | h2) | h2
 ·exact absurd h2 Xt
 ·rw[ha]at h2;cases h2
 ·exact .inl h2
 ·exact .inr h2
theorem wp {n0:Nat} {L':List (List Bool)} {ks:List Mk} (h:qP n0 L' ks=true) {p q:Nat} {k k':Mk} (hp:ks[p]?=some k) (hq:ks[q]?=some k') {id:Nat} (hk:k.kl=some id) (Xr:k'.kl=some id):p=q:=by
 unfold qP at h
 rw[UU]at h
 have Yg:p<ks.length:=(Up.1 hp).1
 have Zh:q<ks.length:=(Up.1 hq).1
 have h1:=h p (Va.2 Yg)
 have e:ks.getD p (oT .junk .dead)=k:=by rw[List.getD,hp];rfl
 rw[e,hk]at h1
 simp only[Uo]at h1
 have h2:=h1.2
 rw[UU]at h2
 have h3:=h2 q (Va.2 Zh)
 have e2:ks.getD q (oT .junk .dead)=k':=by rw[List.getD,hq];rfl
 rw[e2,Xr]at h3
 simp only[U3,UH,U2]at h3
 rcases h3 with h3 | h3
 ·exact h3.symm
 ·have:Nat.beq id id=true:=by rw[UH]
  rw[this]at h3;cases h3
def N1 (P:Program) (nt:Nat) (ops:List Oper) (WS:List (Nat×Ov)) (m:Nat) (st:St) (k:St→Prop):Prop :=
 Lr P ops (ops.take m) st WS 0 (ops.take m) [] [] fun L' ks =>
  match N0 nt ops m&&(nM st st.heap.length 0 L' ks L' ks&&qP st.heap.length L' ks)&&P.follows .mixedOrders with
  | true=>zC P nt ops WS m (ops.drop m) ⟨x5 (ops.take m) st.env++m5 (ops.take m) ks (List.replicate m true),st.heap++d8 st.heap.length ks (List.replicate m true)⟩ k
  | false=>False
theorem tB {P:Program} {nt:Nat} {ops:List Oper} {WS:List (Nat×Ov)} {k k':St→Prop} (hk:∀st,k st→k' st):∀(r:List Oper) (i:Nat) (st:St),zC P nt ops WS i r st k→zC P nt ops WS i r st k'
 | [],i,st,h=>hk _ h
 | o::r,i,st,h=>by
  unfold zC at h ⊢
  split at h
  ·rename_i hg;exact⟨h.1,tB hk r (i+1) _ h.2⟩
  ·rename_i hg;exact⟨h.1,tB hk r (i+1) _ h.2⟩
  ·exact h.elim
theorem wq {P:Program} {ops os:List Oper} {st:St} {WS:List (Nat×Ov)} {K K':List (List Bool)→List Mk→Prop} (hk:∀a b,K a b→K' a b):∀(r:List Oper) (i:Nat) (L':List (List Bool)) (ks:List Mk),Lr P ops os st WS i r L' ks K→Lr P ops os st WS i r L' ks K'
 | [],i,L',ks,h=>hk _ _ h
 | o::r,i,L',ks,h=>by
  unfold Lr at h ⊢
  split at h
  ·rename_i hg
   refine⟨h.1,?_⟩
   have h2:=h.2
   rw[E4,Iz,Nc]at h2 ⊢
   exact wq hk r (i+1) _ _ h2
  ·exact wq hk r (i+1) _ _ h
  ·exact h.elim
theorem IG {P:Program} {nt:Nat} {ops:List Oper} {WS:List (Nat×Ov)} {m:Nat} {st:St} {k k':St→Prop} (h:N1 P nt ops WS m st k) (hk:∀st,k st→k' st):N1 P nt ops WS m st k':=by
 unfold N1 at h ⊢
 refine wq (fun a b hq=>?_) _ _ _ _ h
 split at hq
 ·exact tB hk _ _ _ hq
 ·exact hq.elim
section
variable {C:ns}
theorem IH {P:Program} {ops os:List Oper} {st:St} {WS:List (Nat×Ov)} {K:List (List Bool)→List Mk→Prop}:∀(r:List Oper) (i:Nat) (L':List (List Bool)) (ks:List Mk),L'.length=i→ks.length=i→Lr P ops os st WS i r L' ks K →
  ∃(WW:List (List Bool)) (YF:List Mk),WW.length=i+r.length∧YF.length=i+r.length∧(∃x,WW=L'++x)∧(∃y,YF=ks++y)∧K WW YF ∧
   ∀(j:Nat) (o:Oper),r[j]?=some o→(WW.getD (i+j) [])=i3 (WW.take (i+j)) o.after.toList ∧
    ((gS ops (ff os st (YF.take (i+j)) (WW.getD (i+j) [])) o=some true∧∃k p,wn P (ff os st (YF.take (i+j)) (WW.getD (i+j) [])).heap (fF (ff os st (YF.take (i+j)) (WW.getD (i+j) [])).env) (qN WS (i+j)) o.op=(k,p)∧p∧YF[i+j]?=some k) ∨
     (gS ops (ff os st (YF.take (i+j)) (WW.getD (i+j) [])) o=some false∧YF[i+j]?=some (oT (.tup []) .dead)))
 | [],i,L',ks,h1,h2,h=>⟨L',ks,by simp[h1],by simp[h2],⟨[],by simp⟩,⟨[],by simp⟩,h,fun j o ho=>by simp at ho⟩
 | o::r,i,L',ks,h1,h2,h=>by
  unfold Lr at h
  have fin:∀(k:Mk),Lr P ops os st WS (i+1) r (L'++[i3 L' o.after.toList]) (ks++[k]) K →
    ((gS ops (ff os st ks (i3 L' o.after.toList)) o=some true∧∃p,wn P (ff os st ks (i3 L' o.after.toList)).heap (fF (ff os st ks (i3 L' o.after.toList)).env) (qN WS i) o.op=(k,p)∧p)∨(gS ops (ff os st ks (i3 L' o.after.toList)) o=some false∧k=oT (.tup []) .dead)) →
    ∃(WW:List (List Bool)) (YF:List Mk),WW.length=i+(o::r).length∧YF.length=i+(o::r).length∧(∃x,WW=L'++x)∧(∃y,YF=ks++y)∧K WW YF ∧
     ∀(j:Nat) (o':Oper),(o::r)[j]?=some o'→(WW.getD (i+j) [])=i3 (WW.take (i+j)) o'.after.toList ∧
      ((gS ops (ff os st (YF.take (i+j)) (WW.getD (i+j) [])) o'=some true∧∃k p,wn P (ff os st (YF.take (i+j)) (WW.getD (i+j) [])).heap (fF (ff os st (YF.take (i+j)) (WW.getD (i+j) [])).env) (qN WS (i+j)) o'.op=(k,p)∧p∧YF[i+j]?=some k) ∨
       (gS ops (ff os st (YF.take (i+j)) (WW.getD (i+j) [])) o'=some false∧YF[i+j]?=some (oT (.tup []) .dead))):=by
   intro k hk hc
   obtain⟨WW,YF,q1,q2,⟨x,q3⟩,⟨y,q4⟩,q5,q6⟩:=IH r (i+1) _ _ (by simp[h1]) (by simp[h2]) hk
   refine⟨WW,YF,by rw[q1,Ve];omega,by rw[q2,Ve];omega,⟨_,by rw[q3,Vf]⟩,⟨_,by rw[q4,Vf]⟩,q5,fun j o' Yh=>?_⟩
   cases j with
   | zero =>
    simp at Yh
    subst Yh
    have ea:WW.getD (i+0) []=i3 L' o.after.toList:=by
     rw[q3];unfold List.getD
     rw[Vf,UE (by omega)]
     simp[h1]
    have et:WW.take (i+0)=L':=by rw[q3,Vf,VM,← h1,Wt]
    have ek:YF.take (i+0)=ks:=by rw[q4,Vf,VM,← h2,Wt]
    have eg:YF[i+0]?=some k:=by
     rw[q4,Vf,UE (by omega)]
     simp[h2]
    rw[ea,et,ek,eg]
    refine⟨rfl,?_⟩
    rcases hc with ⟨c1,p,c2,c3⟩ | ⟨c1,rfl⟩
    ·exact .inl ⟨c1,k,p,c2,c3,rfl⟩
    ·exact .inr ⟨c1,rfl⟩
   | succ j =>
    have:=q6 j o' (by simpa using Yh)
    rwa [show i+1+j=i+(j+1)from by omega]at this
  split at h
  ·rename_i hg
   generalize hq:wn P (ff os st ks (i3 L' o.after.toList)).heap (fF (ff os st ks (i3 L' o.after.toList)).env) (qN WS i) o.op=q at h
   obtain⟨k,p⟩:=q
   obtain⟨hp,hk⟩:=h
   rw[E4,Iz,Nc]at hk
   exact fin k hk (.inl ⟨hg,p,hq,hp⟩)
  ·rename_i hg
   exact fin _ h (.inr ⟨hg,rfl⟩)
  ·exact h.elim
theorem Bq {α:Type _} {l:List α} {i:Nat} {x:α} (h:l[i]?=some x):l.set i x=l:=by
 apply List.ext_getElem?
 intro j
 by_cases hj:i=j
 ·subst hj
  rw[UI (Up.1 h).1,h]
 ·rw[UF hj]
theorem Br {id:Nat}:∀{env:List (Nat×D)},(∀t d,(t,d)∈env→D.free id d=true)→cE id env=true
 | [],_=>rfl
 | (t,d)::r,h=>by
  simp only[cE,Uo]
  exact⟨h t d (UX ..),Br (fun t d hm=>h t d (UT _ hm))⟩
theorem rX {id:Nat}:∀{H:List aC},(∀(j:Nat) (B:aC),H[j]?=some B→aC.free id B=true)→cF id H=true
 | [],_=>rfl
 | B::r,h=>by
  simp only[cF,Uo]
  exact⟨h 0 B rfl,rX (fun j B hB=>h (j+1) B (by simpa using hB))⟩
theorem kZ {t s:Nat} {d:D}:∀{env:List (Nat×D)},(s,d)∈env→s≠t→(s,d)∈uA env t
 | (q,e)::r,h,hn=>by
  unfold uA
  rcases Vh.1 h with h | h
  ·cases h
   split
   ·rename_i hq;rw[UH]at hq;exact(hn hq).elim
   ·exact UX ..
  ·split
   ·exact kZ h hn
   ·exact UT _ (kZ h hn)
theorem x6 {i id:Nat}:∀{q':List (List Bool)} {ks:List Mk} {j0:Nat},nM.freeM i id j0 q' ks=true→∀(j:Nat) (a:List Bool) (k:Mk),q'[j]?=some a→ks[j]?=some k→j0+j=i∨a.getD i false=true∨(D.free id k.d=true∧aC.free id k.b=true)
 | a::q',k::ks,j0,h,0,a',k',h1,h2=>by
  simp at h1 h2;subst h1 h2
  unfold nM.freeM at h
  simp only[Uo,U3,UH]at h
  rcases h.1 with (h3 | h3) | h3
  ·exact .inl (by omega)
  ·exact .inr (.inl h3)
  ·exact .inr (.inr h3)
 | a::q',k::ks,j0,h,j+1,a',k',h1,h2=>by
  unfold nM.freeM at h
  simp only[Uo]at h
  have:=x6 h.2 j a' k' (by simpa using h1) (by simpa using h2)
  rcases this with h3 | h3
  ·exact .inl (by omega)
  ·exact .inr h3
 | [],_,_,_,_,_,_,h1,_=>by simp at h1
 | _::_,[],_,_,_,_,_,_,h2=>by simp at h2
theorem x7 {st:St} {n0:Nat} {L':List (List Bool)} {mks:List Mk}:∀{q':List (List Bool)} {ks:List Mk} {i0:Nat},nM st n0 i0 q' ks L' mks=true→∀(i:Nat) (a:List Bool) (k:Mk),q'[i]?=some a→ks[i]?=some k→k.b.live=true∨k.kl.isSome=true →
  cE (n0+(i0+i)) st.env=true∧cF (n0+(i0+i)) st.heap=true∧nM.freeM (i0+i) (n0+(i0+i)) 0 L' mks=true
 | a::q',k::ks,i0,h,0,a',k',h1,h2,hl=>by
  simp at h1 h2;subst h1 h2
  unfold nM at h
  simp only[Uo]at h
  have h3:=h.1
  split at h3
  ·rename_i hb X7;rw[hb,X7]at hl;rcases hl with hl | hl<;>cases hl
  ·simp only[Uo]at h3
   exact⟨h3.1.1,h3.1.2,h3.2⟩
 | a::q',k::ks,i0,h,i+1,a',k',h1,h2,hl=>by
  unfold nM at h
  simp only[Uo]at h
  have:=x7 h.2 i a' k' (by simpa using h1) (by simpa using h2) hl
  rwa [show i0+1+i=i0+(i+1)from by omega]at this
 | [],_,_,_,_,_,_,h1,_,_=>by simp at h1
 | _::_,[],_,_,_,_,_,_,h2,_=>by simp at h2
theorem x8:∀{os:List Oper},Bp os=true→∀(i j:Nat) (o o':Oper) (t:Nat),os[i]?=some o→os[j]?=some o'→o.dst=some t→o'.dst=some t→i=j
 | x::r,h,i,j,o,o',t,hi,hj,h1,h2=>by
  unfold Bp at h
  simp only[Uo]at h
  have key:∀(k:Nat) (y z:Oper),r[k]?=some y→z=x→z.dst=some t→y.dst=some t→False:=by
   intro k y z hy hz hd hd2
   subst hz
   have h3:=h.1
   rw[hd]at h3
   simp only[UU]at h3
   have:=h3 y (UV hy)
   rw[hd2]at this
   simp at this
  cases i with
  | zero =>
   cases j with
   | zero=>rfl
   | succ j=>simp at hi hj;exact(key j o' o hj hi.symm h1 h2).elim
  | succ i =>
   cases j with
   | zero=>simp at hi hj;exact(key i o o' hi hj.symm h2 h1).elim
   | succ j=>simp at hi hj;rw[x8 h.2 i j o o' t hi hj h1 h2]
 | [],_,i,_,_,_,_,hi,_,_,_=>by simp at hi
theorem qQ {ops:List Oper} {L':List (List Bool)} {m:Nat} {ls:Array Bool} (hcl:∀i o,ls.getD i false=true→ops[i]?=some o→∀e∈o.after,Region.binds .any e=true→ls.getD e.on false=true)
  (WL:∀i o,ops[i]?=some o→∀e∈o.after,Region.binds .any e=true→e.on<i) (hm:m≤ops.length)
  (ZF:∀(j:Nat) (o:Oper),(ops.take m)[j]?=some o→L'.getD j []=i3 (L'.take j) o.after.toList) (Xm:L'.length=m) :
  ∀(i:Nat) (o:Oper),i<m→ops[i]?=some o→(∀e∈o.after,Region.binds .any e=true→ls.getD e.on false=true)→∀j,(L'.getD i []).getD j false=true→ls.getD j false=true:=by
 intro i
 induction i using Nat.strongRecOn with
 | _ i ih =>
  intro o hi ho hr j hj
  rw[ZF i o (by rw[UP,Uw hi];exact ho)]at hj
  obtain⟨e,he,hb,hc⟩:=rT hj
  have Y0:e∈o.after:=by simpa using he
  have hlst:=hr e Y0 hb
  have hei:=WL i o ho e Y0 hb
  rcases hc with rfl | hc
  ·exact hlst
  ·have e2:(L'.take i).getD e.on []=L'.getD e.on []:=by
    unfold List.getD;rw[UP,Uw hei]
   rw[e2]at hc
   have hoe:ops[e.on]?=some (ops[e.on]'(by omega)):=Uq (by omega)
   exact ih e.on hei _ (by omega) hoe (hcl e.on _ hlst hoe) j hc
theorem eX (C':Array Bool) (m j:Nat) (h:j<m):((List.range m).map fun j=>C'.getD j false).getD j false=C'.getD j false:=by
 simp[List.getD,h]
theorem tC (C':Array Bool) (m j:Nat) (h:m≤j):((List.range m).map fun j=>C'.getD j false).getD j false=false:=by
 simp[List.getD,h]
theorem II {ops:List Oper} {L':List (List Bool)} {m:Nat} (WL:∀i o,ops[i]?=some o→∀e∈o.after,Region.binds .any e=true→e.on<i) (hm:m≤ops.length)
  (ZF:∀(j:Nat) (o:Oper),(ops.take m)[j]?=some o→L'.getD j []=i3 (L'.take j) o.after.toList):∀(i:Nat),i<m→∀j,(L'.getD i []).getD j false=true→j<i:=by
 intro i
 induction i using Nat.strongRecOn with
 | _ i ih =>
  intro hi j hj
  have hoi:ops[i]?=some (ops[i]'(by omega)):=Uq (by omega)
  rw[ZF i _ (by rw[UP,Uw hi];exact hoi)]at hj
  obtain⟨e,he,hb,hc⟩:=rT hj
  have Y0:e∈(ops[i]'(by omega)).after:=by simpa using he
  have hei:=WL i _ hoi e Y0 hb
  rcases hc with rfl | hc
  ·exact hei
  ·have e2:(L'.take i).getD e.on []=L'.getD e.on []:=by
    unfold List.getD;rw[UP,Uw hei]
   rw[e2]at hc
   have:=ih e.on hei (by omega) j hc
   omega
theorem wt {id:Nat} {x:Fz}:∀{env:List (Nat×D)} {t:Nat} {d:D},(t,d)∈env→(t,fG id x d)∈tp id x env
 | (s,e)::r,t,d,h=>by
  rcases Vh.1 h with h | h
  ·cases h;exact UX ..
  ·exact UT _ (wt h)
theorem bk.addAt {S:Nat→Prop} {μ:Nat→Value} {st:St} {a:Act} {w:World} (h:bk C S μ st a w) {id:Nat} (hd:st.heap[id]?=some .dead) (hf:cE id st.env=true) (hh:cF id st.heap=true) {B:aC} {u:Value} (hA2:B.isOwn=true) {μ1:Nat→Value} (I':aN S μ1 w u B)
  (W2:∀b,cx u b→C.W.heap.size≤b∧¬S b∧∀(i:Nat) (A:aC),st.heap[i]?=some A→A.live=true→¬cx (μ i) b):bk C S (br μ id u) ⟨st.env,st.heap.set id B⟩ a w:=by
 have WR:∀i,i≠id→br μ id u i=μ i:=fun i hi=>aP _ _ hi
 have WL:id<st.heap.length:=(Up.1 hd).1
 have XY:∀(i:Nat) (A:aC),(st.heap.set id B)[i]?=some A→(i≠id∧st.heap[i]?=some A)∨(i=id∧A=B):=by
  intro i A hA
  by_cases hi:i=id
  ·subst hi
   rw[UI WL]at hA
   exact .inr ⟨rfl,by cases hA;rfl⟩
  ·rw[UF (Wx hi)]at hA
   exact .inl ⟨hi,hA⟩
 refine⟨h.os,h.tape,h.output,h.size,h.old,h.mono,h.new,h.slt,?_,⟨?_,?_,?_⟩,?_,?_,h.tsize,?_⟩
 ·intro t d hm
  obtain⟨q1,q2⟩:=h.env t d hm
  exact⟨q1,q2.stable (fun _ h _=>h) (fun _ _ _=>rfl) (Ut _) (fun id WG=>aP _ _ (fun e=>by rw[e,eH hf hm]at WG;cases WG))⟩
 ·intro i A hA
  rcases XY i A hA with ⟨hi,hA⟩ | ⟨rfl,rfl⟩
  ·rw[WR i hi]
   exact(h.heap.box i A hA).stable (fun _ h _=>h) (fun _ _ _=>rfl) (Ut _) (fun id WG=>aP _ _ (fun e=>by rw[e,dZ hh hA]at WG;cases WG)) (fun _ _=>rfl)
  ·rw[aG]
   exact I'.arrMu hA2
 ·intro i j A A' b hA Xf la la' hb Xa
  have g1:=XY i A hA
  have g2:=XY j A' Xf
  clear hA Xf
  rcases g1 with ⟨hi,hA⟩ | ⟨ei,eA⟩<;>rcases g2 with ⟨hj,Xf⟩ | ⟨ej,eA'⟩
  ·rw[WR i hi]at hb;rw[WR j hj]at Xa
   exact h.heap.apart i j A A' b hA Xf la la' hb Xa
  ·rw[WR i hi]at hb;rw[ej,aG]at Xa
   exact((W2 b Xa).2.2 i A hA la hb).elim
  ·rw[WR j hj]at Xa;rw[ei,aG]at hb
   exact((W2 b hb).2.2 j A' Xf la' Xa).elim
  ·rw[ei,ej]
 ·intro i A b hA la hb
  rcases XY i A hA with ⟨hi,hA⟩ | ⟨rfl,rfl⟩
  ·rw[WR i hi]at hb
   exact h.heap.notS i A b hA la hb
  ·rw[aG]at hb
   exact(W2 b hb).2.1
 ·intro i A b hA la hb
  rcases XY i A hA with ⟨hi,hA⟩ | ⟨rfl,rfl⟩
  ·rw[WR i hi]at hb
   exact h.may i A b hA la hb
  ·rw[aG]at hb
   exact(W2 b hb).1
 ·obtain⟨mk,e1,e2,e3⟩:=h.defers
  refine⟨mk,e1,e2,fun b hb=>?_⟩
  obtain⟨g1,g2,g3,g4⟩:=e3 b hb
  refine⟨g1,g2,g3,fun i A hA la XK=>?_⟩
  rcases XY i A hA with ⟨hi,hA⟩ | ⟨rfl,rfl⟩
  ·rw[WR i hi]at XK
   exact g4 i A hA la XK
  ·rw[aG]at XK
   obtain⟨cs,T,x,hh2⟩:=I'.ownBlk hA2 XK
   rw[hh2]at g1
   simp at g1
 ·intro i A b hA la hb
  rcases XY i A hA with ⟨hi,hA⟩ | ⟨rfl,rfl⟩
  ·rw[WR i hi]at hb
   exact h.ro i A b hA la hb
  ·cases A<;>first | (cases hA2;done) | cases la
theorem bk.alias {S:Nat→Prop} {μ:Nat→Value} {st:St} {a:Act} {w:World} (h:bk C S μ st a w) {q p:Nat} {A:aC} (hq:st.heap[q]?=some A) (hA:A.isArr=true) (hp:st.heap[p]?=some .dead) (hf:cE p st.env=true) (hh:cF p st.heap=true) :
  bk C S (br μ p (μ q)) ⟨st.env,(st.heap.set q .dead).set p A⟩ a w:=by
 have hl:A.live=true:=by cases A<;>first | rfl | cases hA
 have hqp:q≠p:=fun e=>by subst e;rw[hq]at hp;cases hp;cases hl
 have hqL:q<st.heap.length:=(Up.1 hq).1
 have hpL:p<st.heap.length:=(Up.1 hp).1
 have h1:bk C S μ ⟨st.env,st.heap.set q .dead⟩ a w:=h.heapTo (fun i B hB=>by
  by_cases e:i=q
  ·subst e;rw[UI hqL]at hB;cases hB;exact .inl rfl
  ·rw[UF (Wx e)]at hB;exact .inr hB)
 have hp1:(st.heap.set q .dead)[p]?=some .dead:=by rw[UF hqp];exact hp
 have hh1:cF p (st.heap.set q .dead)=true:=rX (fun i B hB=>by
  by_cases e:i=q
  ·subst e;rw[UI hqL]at hB;cases hB;rfl
  ·rw[UF (Wx e)]at hB;exact dZ hh hB)
 refine h1.addAt hp1 hf hh1 (aC.isOwn_arr hA) (h.heap.box q A hq) (fun b hb=>⟨h.may q A b hq hl hb,h.heap.notS q A b hq hl hb,fun i B hB lB XK=>?_⟩)
 have W3:(st.heap.set q .dead)[i]?=some B:=hB
 by_cases e:i=q
 ·subst e;rw[UI hqL]at W3;cases W3;cases lB
 ·rw[UF (Wx e)]at W3
  exact e (h.heap.apart i q B A b W3 hq lB hl XK hb)
theorem Ev.dwG {id:Nat} {ops:List Oper} {st:St} {Q:Exit→St→Prop} (WS:List (Nat×Ov)) (m:Nat) (late:Nat→Bool) {L':List (List Bool)} {ks:List Mk} (hmn:m≤ops.length)
  (Xm:L'.length=(ops.take m).length) (XL:ks.length=(ops.take m).length)
  (hmk:∀(j:Nat) (o:Oper),(ops.take m)[j]?=some o→(L'.getD j [])=i3 (L'.take j) o.after.toList ∧
    ((gS ops (ff (ops.take m) st (ks.take j) (L'.getD j [])) o=some true∧∃k p,wn C.P (ff (ops.take m) st (ks.take j) (L'.getD j [])).heap (fF (ff (ops.take m) st (ks.take j) (L'.getD j [])).env) (qN WS j) o.op=(k,p)∧p∧ks[j]?=some k) ∨
     (gS ops (ff (ops.take m) st (ks.take j) (L'.getD j [])) o=some false∧ks[j]?=some (oT (.tup []) .dead))))
  (hrok:NN ops.toArray zE ⟨Array.replicate C.nt undef,[]⟩=true) (hdst:rV C.nt (ops.take m)=true) (hdd:Bp (ops.take m)=true) (hndb:ops.all (fun o=>!eN o)=true)
  (Yp:nM st st.heap.length 0 L' ks L' ks=true) (Xk:qP st.heap.length L' ks=true) (hmix:C.P.follows .mixedOrders=true)
  (htailL:∀i,m≤i→i<ops.length→∀j,j<m→late j=false→ef ops.toArray i j=true)
  (hjump:∀(C':Array Bool) (S:Nat→Prop) (μ:Nat→Value) (a':Act) (w:World),C'.size=ops.length →
    (∀i o,C'.getD i false=true→ops[i]?=some o→∀e∈o.after,Region.binds .any e=true→C'.getD e.on false=true)→bk C S μ (ff (ops.take m) st ks ((List.range m).map fun j=>C'.getD j false)) a' w →
    (∀j,j<m→late j=false→C'.getD j false=true)→(∀i,m≤i→C'.getD i false=false) →
    wpAnyIn (qE C.rd) 0 C.P .any ops.toArray (fun e a' w'=>∃P' S' μ',Q e P'∧bk C S' μ' P' a' w') (CP C' m+(ops.length-m)) C' a' w) :
  Ev C (.region id ops.toArray true) Q st:=fun a w S μ hR=>by
 have hnd:EB ops.toArray:=fun i o ho=>by
  rw[UU]at hndb
  have:=hndb o (UV (by simpa using ho))
  simpa using this
 have hml:(ops.take m).length=m:=by rw[UG];omega
 rw[hml]at Xm XL
 have XG:K6 ops.toArray zE a:=AV (Bj hrok (by simp[hR.tsize]) rfl rfl)
 have ZA:∀(k:Nat) (o:Oper),k<m→ops[k]?=some o→(ops.take m)[k]?=some o:=fun k o hk ho=>by rw[UP,Uw hk];exact ho
 have WE:ops.toArray.size=ops.length:=by simp
 have hdsts:∀(k:Nat) (o:Oper),k<m→ops[k]?=some o→(∃t,o.dst=some t∧t<C.nt∧lU o.op=false)∨(o.dst=none∧lU o.op=true):=by
  have key:∀(l:List Oper),rV C.nt l=true→∀(k:Nat) (o:Oper),l[k]?=some o→(∃t,o.dst=some t∧t<C.nt∧lU o.op=false)∨(o.dst=none∧lU o.op=true):=by
   intro l
   induction l with
   | nil=>intro _ k o ho;simp at ho
   | cons x r ih =>
    intro hd k o ho
    unfold rV at hd
    simp only[Uo]at hd
    cases k with
    | zero =>
     simp at ho;subst ho
     have h1:=hd.1
     split at h1
     ·rename_i t ht;simp only[Uo,U2]at h1;exact .inl ⟨t,ht,by simpa using h1.1,h1.2⟩
     ·rename_i ht;exact .inr ⟨ht,h1⟩
    | succ k=>exact ih hd.2 k o (by simpa using ho)
  exact fun k o hk ho=>key _ hdst k o (ZA k o hk ho)
 let WO:Array Bool→List Bool:=fun C'=>(List.range m).map fun j=>C'.getD j false
 have main:∀(fuel:Nat) (C':Array Bool) (env:Nat→Value) (S:Nat→Prop) (μ:Nat→Value) (a':Act) (w:World),nk ops.toArray a C' env a'→bk C S μ (ff (ops.take m) st ks (WO C')) a' w→CP C' m=fuel→(∀i,m≤i→C'.getD i false=false) →
   wpAnyIn (qE C.rd) 0 C.P .any ops.toArray (fun e a' w'=>∃P' S' μ',Q e P'∧bk C S' μ' P' a' w') (fuel+(ops.toArray.size-m)) C' a' w:=by
  intro fuel
  induction fuel with
  | zero =>
   intro C' env S μ a' w hF hRL hu Xu
   have hj:=hjump C' S μ a' w (by rw[hF.lsize];exact WE) (fun i o hl ho e he hb=>hF.closed i o hl (by simpa using ho) e he hb) hRL (fun j hj _=>AX C' m hu j hj) Xu
   rw[hu]at hj
   rw[WE]
   exact hj
  | succ fuel ih =>
   intro C' env S μ a' w hF hRL hu Xu
   by_cases hnlate:∀j,j<m→late j=false→C'.getD j false=true
   ·rw[show fuel+1=CP C' m from hu.symm,WE]
    exact hjump C' S μ a' w (by rw[hF.lsize];exact WE) (fun i o hl ho e he hb=>hF.closed i o hl (by simpa using ho) e he hb) hRL hnlate Xu
   obtain⟨k0,hk01,hk0l,hk02⟩:∃k,k<m∧late k=false∧C'.getD k false=false:=by
    refine Classical.byContradiction fun hn=>hnlate fun j hj hl=>?_
    cases h:C'.getD j false
    ·exact(hn ⟨j,hj,hl,h⟩).elim
    ·rfl
   have hex:∃k,k<m∧C'.getD k false=false:=⟨k0,hk01,hk02⟩
   rw[show fuel+1+(ops.toArray.size-m)=(fuel+(ops.toArray.size-m))+1 from by omega]
   refine⟨fun hnil=>?_,fun i hi=>?_⟩
   ·obtain⟨k,Zd,Ys⟩:=hex
    have:=tc XG C' hF.lsize hnil k (by omega)
    rw[Ys]at this
    cases this
   obtain⟨Xo,o,ho,hr⟩:=(fQ C' hF.lsize i).1 hi
   have WL:i<ops.toArray.size:=(UC.1 ho).1
   have hlt':i<C'.size:=by rw[hF.lsize];exact WL
   have him:i<m:=by
    refine Vr fun hn=>?_
    have:=ia hF.closed 12 i k0 (fun o' Yh=>by rw[ho]at Yh;cases Yh;exact hr) (htailL i (by omega) (by rw[← WE];exact WL) k0 hk01 hk0l)
    rw[hk02]at this
    cases this
   have hu':CP (C'.setIfInBounds i true) m=fuel:=by
    have:=Ey C' i hlt' Xo m
    rw[Uw him]at this
    omega
   have hno':∀k,m≤k→(C'.setIfInBounds i true).getD k false=false:=fun k hk=>by
    rw[bj _ _ _ hlt',Ur (by omega)]
    exact Xu k hk
   have Yh:ops[i]?=some o:=by simpa using ho
   obtain⟨han,Z0⟩:=hmk i o (ZA i o him Yh)
   have ZF:∀j,(L'.getD i []).getD j false=true→C'.getD j false=true :=
    qQ (ops:=ops) (fun i o hl ho e he hb=>hF.closed i o hl (by simpa using ho) e he hb) (fun i o ho e he hb=>XG.top i o (by simpa using ho) e he hb) hmn (fun j o ho=>(hmk j o ho).1) Xm i o him Yh hr
   have hgi:(WO C').getD i false=false:=by rw[eX C' m i him];exact Xo
   have hltE:∀i o,ops[i]?=some o→∀e∈o.after,Region.binds .any e=true→e.on<i:=fun i o ho e he hb=>XG.top i o (by simpa using ho) e he hb
   have Y2:∀(j:Nat) (o:Oper),(ops.take m)[j]?=some o→L'.getD j []=i3 (L'.take j) o.after.toList:=fun j o ho=>(hmk j o ho).1
   have hlist:∀(p:Nat),C'.getD p false=true→p<m→∀j,(L'.getD p []).getD j false=true→C'.getD j false=true:=fun p hp hpm j hj =>
    qQ (ops:=ops) (L':=L') (m:=m) (ls:=C') (fun i o hl ho e he hb=>hF.closed i o hl (by simpa using ho) e he hb) hltE hmn Y2 Xm p _ hpm (Uq (by omega))
     (hF.closed p _ hp (by simp)) j hj
   have hthere:∀(q:Nat),q<m→(L'.getD i []).getD q false=true→kG (st.heap.length+q) (ks.take i) (L'.getD i [])=false→kG (st.heap.length+q) ks (WO C')=false:=by
    intro q hqm hanq hsafe
    cases hd:kG (st.heap.length+q) ks (WO C')
    ·rfl
    obtain⟨p,kp,p1,p2,p3⟩:=rU hd
    have hpm:p<m:=by have:=(Up.1 p1).1;omega
    rw[eX C' m p hpm]at p2
    obtain⟨_,_,k3⟩:=jz Xk p1 (NW p3)
    have hip:i≠p:=fun e=>by rw[← e,Xo]at p2;cases p2
    rcases k3 i (by omega) hip (by rw[Wa];exact hanq)with k4 | k4
    ·have hpi:=II hltE hmn Y2 i him p k4
     rw[vw (ks:=ks.take i) (bs:=L'.getD i []) (p:=p) (k:=kp) (by rw[UP,Uw hpi];exact p1) k4 p3]at hsafe
     cases hsafe
    ·have:=hlist p p2 hpm i k4
     rw[Xo]at this;cases this
   have hfillv:∀(q:Nat),q<m→(L'.getD i []).getD q false=true→kX (st.heap.length+q) (ks.take i) (L'.getD i [])=kX (st.heap.length+q) ks (WO C'):=by
    intro q hqm hanq
    cases hv:kX (st.heap.length+q) (ks.take i) (L'.getD i [])with
    | none =>
     cases ha:kX (st.heap.length+q) ks (WO C')with
     | none=>rfl
     | some B =>
      exfalso
      obtain⟨p,kp,p1,p2,p3,_⟩:=gT ha
      rw[U5]at p2
      have hpm:p<m:=by have:=(Up.1 p1).1;omega
      rw[eX C' m p hpm]at p2
      obtain⟨_,_,k3⟩:=jz Xk p1 (wk p3)
      have hip:i≠p:=fun e=>by rw[← e,Xo]at p2;cases p2
      rcases k3 i (by omega) hip (by rw[Wa];exact hanq)with k4 | k4
      ·have hpi:=II hltE hmn Y2 i him p k4
       exact lV hv p kp (by rw[UP,Uw hpi];exact p1) (by rw[U5];exact k4) p3
      ·have:=hlist p p2 hpm i k4
       rw[Xo]at this;cases this
    | some B =>
     obtain⟨p,kp,p1,p2,p3,p4⟩:=gT hv
     rw[U5]at p2
     have hpi:p<i:=by have:=(Up.1 p1).1;rw[UG]at this;omega
     rw[UP,Uw hpi]at p1
     have hlp:(WO C').getD p false=true:=by rw[eX C' m p (by omega)];exact ZF p p2
     cases ha:kX (st.heap.length+q) ks (WO C')with
     | none=>exact(lV ha p kp p1 (by rw[U5];exact hlp) p3).elim
     | some B' =>
      obtain⟨p',kp',r1,r2,r3,r4⟩:=gT ha
      have e:=wp Xk p1 r1 (wk p3) (wk r3)
      subst e
      rw[p1]at r1
      cases r1
      rw[p4,r4]
   let sti:=ff (ops.take m) st (ks.take i) (L'.getD i [])
   have hview:∀(j:Nat) (B:aC),sti.heap[j]?=some B→B=.dead∨(ff (ops.take m) st ks (WO C')).heap[j]?=some B:=by
     intro j B hB
     show B=.dead∨(st.heap++d8 st.heap.length ks (WO C'))[j]?=some B
     have W3:(st.heap++d8 st.heap.length (ks.take i) (L'.getD i []))[j]?=some B:=hB
     by_cases hj:j<st.heap.length
     ·rw[UD hj]at W3 ⊢;exact .inr W3
     ·rw[UE (by omega)]at W3 ⊢
      generalize hjj:j-st.heap.length=q at W3 ⊢
      have Zh:q<(ks.take i).length:=by
       have:=(Up.1 W3).1
       rwa [eu]at this
      have Zi:(ks.take i)[q]?=some ((ks.take i)[q]):=Uq Zh
      have hqi:q<i:=by rw[UG]at Zh;omega
      have hkq2:ks[q]?=some ((ks.take i)[q]):=by rw[← Zi,UP,Uw hqi]
      rcases lW Zi W3 with h0 | ⟨g1,g2,g3,g4⟩
      ·exact .inl h0
      ·refine .inr (wo hkq2 (by rw[eX C' m q (by omega)];exact ZF q g1) (hthere q (by omega) g1 g2) g3 ?_)
       rw[hfillv q (by omega) g1]at g4
       exact g4
   have hRi:bk C S μ sti a' w:=by
    have h1:=hRL.weak (env:=sti.env) (fun s d hm=>.inr ?_)
    ·exact h1.heapTo hview
    ·rcases Vp.1 hm with hm | hm
     ·exact VP _ hm
     ·obtain⟨j,oj,kj,q1,q2,q3,q4,rfl⟩:=gU hm
      have Xi:j<i:=by
       have:=(Up.1 q2).1
       rw[UG]at this;omega
      refine V1 _ (oU j q1 (by rw[← q2,UP,Uw Xi]) ?_ q4)
      rw[eX C' m j (by omega)]
      exact ZF j q3
   have hlenk:(d8 st.heap.length (ks.take i) (L'.getD i [])).length=i:=by rw[eu,UG];omega
   have hsl:sti.heap.length=st.heap.length+i:=by
    show(st.heap++_).length=_
    rw[UK,hlenk]
   have ls':∀j,(WO (C'.setIfInBounds i true)).getD j false=(if j=i then true else (WO C').getD j false):=by
    intro j
    by_cases hj:j<m
    ·rw[eX _ m j hj,eX _ m j hj,bj _ _ _ hlt']
    ·rw[tC _ m j (by omega),tC _ m j (by omega),Ur (by omega)]
   have XM:∃k,ks[i]?=some k:=⟨_,Uq (by omega)⟩
   obtain⟨ki,XM⟩:=XM
   have hdold:∀(q:Nat),kG (st.heap.length+q) ks (WO (C'.setIfInBounds i true))=false→kG (st.heap.length+q) ks (WO C')=false:=by
    intro q hq
    cases hd:kG (st.heap.length+q) ks (WO C')
    ·rfl
    ·obtain⟨p,kp,p1,p2,p3⟩:=rU hd
     have:=vw (bs:=WO (C'.setIfInBounds i true)) p1 (by rw[ls'];split;rfl;exact p2) p3
     rw[this]at hq;cases hq
   have hfsame:∀(q:Nat),ki.fil≠some (st.heap.length+q)→kX (st.heap.length+q) ks (WO C')=kX (st.heap.length+q) ks (WO (C'.setIfInBounds i true)):=by
    intro q hq
    refine uE (fun p kp p1 p2=>?_)
    rw[U5,ls',Ur]
    rintro rfl
    rw[XM]at p1
    cases p1
    exact hq p2
   have W2:ki.fil=none→∀(q:Nat) (B:aC),(d8 st.heap.length ks (WO (C'.setIfInBounds i true)))[q]?=some B→B=.dead∨(q=i∧B=ki.b)∨(q≠i∧(d8 st.heap.length ks (WO C'))[q]?=some B∧kG (st.heap.length+q) ks (WO (C'.setIfInBounds i true))=false):=by
    intro ZB q B hB
    have Zh:q<ks.length:=by
     have:=(Up.1 hB).1
     rwa [eu]at this
    have Zi:ks[q]?=some ks[q]:=Uq Zh
    rcases lW Zi hB with h0 | ⟨g1,g2,g3,g4⟩
    ·exact .inl h0
    by_cases e:q=i
    ·subst e
     rw[XM]at Zi
     rcases g4 with ⟨_,g5⟩ | g5
     ·refine .inr (.inl ⟨rfl,?_⟩)
      rw[g5]
      simp only[UA]at Zi
      rw[← Zi]
     ·exfalso
      obtain⟨p,kp,p1,p2,p3,_⟩:=gT g5
      rw[U5,ls']at p2
      obtain⟨_,k2,_⟩:=jz Xk p1 (wk p3)
      rw[Wa]at k2
      by_cases hpq:p=q
      ·subst hpq
       rw[XM]at p1
       cases p1
       rw[ZB]at p3;cases p3
      ·rw[Ur hpq]at p2
       have hpm:p<m:=by have:=(Up.1 p1).1;omega
       rw[eX C' m p hpm]at p2
       have:=hlist p p2 hpm q k2
       rw[Xo]at this;cases this
    ·refine .inr (.inr ⟨e,wo Zi ?_ (hdold q g2) g3 ?_,g2⟩)
     ·have e2:=ls' q
      rw[Ur e]at e2
      rw[← e2];exact g1
     ·rw[hfsame q (by rw[ZB];simp)];exact g4
   have join0:∀(t:Nat),o.dst=some t→∀(S':Nat→Prop) (μ':Nat→Value) (u:Value) (w':World) (Yt:List (Nat×D)) (H':List aC),bk C S' μ' ⟨Yt,H'⟩ (a'.put o.dst u) w'→(∀s d,(s,d)∈(ff (ops.take m) st ks (WO C')).env→s≠t→(s,d)∈Yt)→(t,ki.d)∈Yt →
     (∀(j:Nat) (B:aC),(ff (ops.take m) st ks (WO (C'.setIfInBounds i true))).heap[j]?=some B→B=.dead∨H'[j]?=some B)→bk C S' μ' (ff (ops.take m) st ks (WO (C'.setIfInBounds i true))) (a'.put o.dst u) w':=by
    intro t Z1 S' μ' u w' Yt H' Xj he1 he2 hH
    have h2:=Xj.weak (env:=(ff (ops.take m) st ks (WO (C'.setIfInBounds i true))).env) (fun s d hm=>.inr ?_)
    ·exact h2.heapTo hH
    ·rcases Vp.1 hm with hm | hm
     ·refine he1 s d (VP _ hm) ?_
      rintro rfl
      exact(kY hm).2 o (UV (ZA i o him Yh)) Z1
     ·obtain⟨j,oj,kj,q1,q2,q3,q4,rfl⟩:=gU hm
      by_cases hj:j=i
      ·subst hj
       rw[XM]at q2;cases q2
       rw[ZA j o him Yh]at q1;cases q1
       rw[Z1]at q4;cases q4
       exact he2
      ·rw[ls',Ur hj]at q3
       refine he1 s kj.d (V1 _ (oU j q1 q2 q3 q4)) ?_
       rintro rfl
       exact hj (x8 hdd j i oj o s q1 (ZA i o him Yh) q4 Z1)
   have hlenA:(ff (ops.take m) st ks (WO C')).heap.length=st.heap.length+ks.length:=by
    show(st.heap++d8 st.heap.length ks (WO C')).length=_
    rw[UK,eu]
   have hil:i<ks.length:=(Up.1 XM).1
   have join:∀(t:Nat),o.dst=some t→t<C.nt→ki.fil=none→∀(S':Nat→Prop) (μ':Nat→Value) (u:Value) (w':World) (H':List aC),bk C S' μ' ⟨(ff (ops.take m) st ks (WO C')).env,H'⟩ a' w'→H'=(ff (ops.take m) st ks (WO C')).heap.set (st.heap.length+i) ki.b→aq S' μ' w' ki.d u→bk C S' μ' (ff (ops.take m) st ks (WO (C'.setIfInBounds i true))) (a'.put o.dst u) w':=by
    intro t Z1 htn ZB S' μ' u w' H' Xj hH' hd
    subst hH'
    have h1:=Xj.put htn hd
    rw[← Z1]at h1
    refine join0 t Z1 S' μ' u w' _ _ h1 (fun s d hm hs=>UT _ (kZ hm hs)) (UX ..) (fun j B hB=>?_)
    show B=.dead∨((ff (ops.take m) st ks (WO C')).heap.set (st.heap.length+i) ki.b)[j]?=some B
    have W3:(st.heap++d8 st.heap.length ks (WO (C'.setIfInBounds i true)))[j]?=some B:=hB
    by_cases hj2:j<st.heap.length
    ·rw[UD hj2]at W3
     rw[UF (by omega)]
     refine .inr ?_
     show(st.heap++d8 st.heap.length ks (WO C'))[j]?=some B
     rw[UD hj2];exact W3
    ·rw[UE (by omega)]at W3
     rcases W2 ZB _ B W3 with h1 | ⟨h1,rfl⟩ | ⟨h1,h2,_⟩
     ·exact .inl h1
     ·rw[show j=st.heap.length+i by omega,UI (by rw[hlenA];omega)]
      exact .inr rfl
     ·rw[UF (by omega)]
      refine .inr ?_
      show(st.heap++d8 st.heap.length ks (WO C'))[j]?=some B
      rw[UE (by omega)];exact h2
   have X2:(ff (ops.take m) st ks (WO C')).heap[st.heap.length+i]?=some .dead:=by
    show(st.heap++d8 st.heap.length ks (WO C'))[st.heap.length+i]?=some .dead
    rw[UE (by omega),Wa,oW _ _ _ _ _ XM,Ur (by rw[hgi];simp)]
   have next:∀(S':Nat→Prop) (μ':Nat→Value) (u:Value) (w':World),bk C S' μ' (ff (ops.take m) st ks (WO (C'.setIfInBounds i true))) (a'.put o.dst u) w' →
     wpAnyIn (qE C.rd) 0 C.P .any ops.toArray (fun e a' w'=>∃P' S' μ',Q e P'∧bk C S' μ' P' a' w') (fuel+(ops.toArray.size-m)) (C'.setIfInBounds i true) (a'.put o.dst u) w' :=
    fun S' μ' u w' Xj=>ih _ _ S' μ' _ w' (hF.step XG ho Xo hr u) Xj hu' hno'
   have joinN:∀(S':Nat→Prop) (μ':Nat→Value) (w':World) (H':List aC),o.dst=none→bk C S' μ' ⟨(ff (ops.take m) st ks (WO C')).env,H'⟩ a' w' →
     (∀(j:Nat) (B:aC),(ff (ops.take m) st ks (WO (C'.setIfInBounds i true))).heap[j]?=some B→B=.dead∨H'[j]?=some B)→bk C S' μ' (ff (ops.take m) st ks (WO (C'.setIfInBounds i true))) a' w':=by
    intro S' μ' w' H' hdn Xj hH
    have h2:=Xj.weak (env:=(ff (ops.take m) st ks (WO (C'.setIfInBounds i true))).env) (fun s d hm=>.inr ?_)
    ·exact h2.heapTo hH
    ·rcases Vp.1 hm with hm | hm
     ·exact VP _ hm
     ·obtain⟨j,oj,kj,q1,q2,q3,q4,rfl⟩:=gU hm
      by_cases hj:j=i
      ·subst hj
       rw[ZA j o him Yh]at q1;cases q1
       rw[hdn]at q4;cases q4
      ·rw[ls',Ur hj]at q3
       exact V1 _ (oU j q1 q2 q3 q4)
   unfold wpOpIn
   simp only[ho]
   rcases hdsts i o him Yh with ⟨t,Z1,htn,hns⟩ | ⟨hdn,Xv⟩
   rotate_left
   ·-- a store that fills
    have hnext0:∀(S':Nat→Prop) (μ':Nat→Value) (w':World),bk C S' μ' (ff (ops.take m) st ks (WO (C'.setIfInBounds i true))) a' w' →
      wpAnyIn (qE C.rd) 0 C.P .any ops.toArray (fun e a' w'=>∃P' S' μ',Q e P'∧bk C S' μ' P' a' w') (fuel+(ops.toArray.size-m)) (C'.setIfInBounds i true) a' w':=by
     intro S' μ' w' Xj
     have Xw:a'.put o.dst undef=a':=by rw[hdn];rfl
     have h1:=next S' μ' undef w' (by rw[Xw];exact Xj)
     rw[Xw]at h1
     exact h1
    have Xp:ki.fil=none→ki.b=.dead→∀(j:Nat) (B:aC),(ff (ops.take m) st ks (WO (C'.setIfInBounds i true))).heap[j]?=some B→B=.dead∨(ff (ops.take m) st ks (WO C')).heap[j]?=some B:=by
     intro ZB hbd j B hB
     have W3:(st.heap++d8 st.heap.length ks (WO (C'.setIfInBounds i true)))[j]?=some B:=hB
     show B=.dead∨(st.heap++d8 st.heap.length ks (WO C'))[j]?=some B
     by_cases hj2:j<st.heap.length
     ·rw[UD hj2]at W3 ⊢;exact .inr W3
     ·rw[UE (by omega)]at W3 ⊢
      rcases W2 ZB _ B W3 with h1 | ⟨_,h1⟩ | ⟨_,h2,_⟩
      ·exact .inl h1
      ·rw[hbd]at h1;exact .inl h1
      ·exact .inr h2
    rcases Z0 with ⟨hg,k,p,hq,hp,hk⟩ | ⟨hg,hk⟩
    ·rw[XM]at hk
     cases hk
     rw[Uw (by rw[dH hRi hg])]
     cases XP:o.op<;>rw[XP]at Xv<;>try (cases Xv)
     rename_i ty ad x
     rw[XP]at hq
     obtain⟨id,T,cs,cs',f1,f2,f3⟩:=Ds hq hp
     have f1':(ff (ops.take m) st ks (WO C')).heap[id]?=some (.var T cs):=(hview id _ f1).resolve_left (by simp)
     obtain⟨w',h1,h2⟩:=rO hRL (hRi.eval ad) (hRi.eval x) (f3 _ f1') trivial
     have hr:(execOp a'.eval o).run C.P w=.ok .skip w':=by
      simp only[execOp,XP,Uv,h1,Uu,UL]
     have hkb:ki.b=.var T cs':=by rw[f2]
     have XL:ki.kl=some id:=by rw[f2]
     have hkf:ki.fil=some id:=by unfold Mk.fil;rw[hkb];exact XL
     obtain⟨k1,k2,_⟩:=jz Xk XM XL
     refine PJ hnd ho ?_
     rw[hr,Oper.uponIn_skip,hdn]
     refine hnext0 S μ w' (joinN S μ w' _ hdn h2 (fun j B hB=>?_))
     have W3:(st.heap++d8 st.heap.length ks (WO (C'.setIfInBounds i true)))[j]?=some B:=hB
     have hidl:id<(ff (ops.take m) st ks (WO C')).heap.length:=(Up.1 f1').1
     by_cases hj2:j<st.heap.length
     ·rw[UD hj2]at W3
      rw[UF (by omega)]
      refine .inr ?_
      show(st.heap++d8 st.heap.length ks (WO C'))[j]?=some B
      rw[UD hj2];exact W3
     ·rw[UE (by omega)]at W3
      generalize hjq:j-st.heap.length=q at W3
      have hje:j=st.heap.length+q:=by omega
      have Zh:q<ks.length:=by
       have:=(Up.1 W3).1
       rwa [eu]at this
      have Zi:ks[q]?=some ks[q]:=Uq Zh
      rcases lW Zi W3 with h0 | ⟨g1,g2,g3,g4⟩
      ·exact .inl h0
      have hqi:q≠i:=fun e=>by
       subst e
       rw[XM]at Zi
       simp only[UA]at Zi
       rw[← Zi,hkf]at g3;cases g3
      by_cases e:j=id
      ·refine .inr ?_
       rw[e,UI hidl]
       have hfi:kX (st.heap.length+q) ks (WO (C'.setIfInBounds i true))=some B→B=ki.b:=fun g5=>by
        obtain⟨p',kp,p1,p2,p3,p4⟩:=gT g5
        have e3:=wp Xk p1 XM (wk p3) (by rw[XL,← e,hje])
        subst e3
        rw[XM]at p1
        cases p1
        exact p4
       rcases g4 with ⟨g5,_⟩ | g5
       ·exact(lV g5 i ki XM (by rw[U5,ls',Uw rfl]) (by rw[hkf,← e,hje])).elim
       ·rw[hfi g5,hkb]
      ·rw[UF (Wx e)]
       refine .inr ?_
       show(st.heap++d8 st.heap.length ks (WO C'))[j]?=some B
       rw[UE (by omega),hjq]
       refine wo Zi ?_ (hdold q g2) g3 ?_
       ·have e2:=ls' q
        rw[Ur hqi]at e2
        rw[← e2];exact g1
       ·rw[hfsame q (by rw[hkf,← hje];intro h;cases h;exact e rfl)];exact g4
    ·rw[XM]at hk
     cases hk
     rw[Ur (by rw[dH hRi hg];simp)]
     have h9:=hnext0 S μ w (joinN S μ w _ hdn hRL (Xp rfl rfl))
     refine⟨fun f _=>te C.rd f,?_⟩
     rw[hdn]
     exact h9
   rcases Z0 with ⟨hg,k,p,hq,hp,hk⟩ | ⟨hg,hk⟩
   ·rw[XM]at hk
    cases hk
    rw[Uw (by rw[dH hRi hg])]
    have hfr2:ki.b.live=true∨ki.kl.isSome=true→cE (st.heap.length+i) (ff (ops.take m) st ks (WO C')).env=true∧cF (st.heap.length+i) (ff (ops.take m) st ks (WO C')).heap=true:=by
     intro Xx
     obtain⟨f1,f2,f3⟩:=x7 Yp i _ ki (Uq (show i<L'.length by omega)) XM Xx
     rw[U5]at f1 f2 f3
     have YQ:∀(j:Nat) (k:Mk),ks[j]?=some k→(WO C').getD j false=true→D.free (st.heap.length+i) k.d=true∧aC.free (st.heap.length+i) k.b=true:=by
      intro j k hkj hlj
      have hjm:j<m:=by have:=(Up.1 hkj).1;omega
      rw[eX C' m j hjm]at hlj
      rcases x6 f3 j _ k (Uq (show j<L'.length by omega)) hkj with h1 | h1 | h1
      ·rw[U5]at h1;subst h1;rw[Xo]at hlj;cases hlj
      ·exfalso
       have hoj:ops[j]?=some (ops[j]'(by omega)):=Uq (by omega)
       have:=qQ (ops:=ops) (L':=L') (m:=m) (ls:=C') (fun i o hl ho e he hb=>hF.closed i o hl (by simpa using ho) e he hb) (fun i o ho e he hb=>XG.top i o (by simpa using ho) e he hb) hmn (fun j o ho=>(hmk j o ho).1) Xm j _ hjm hoj
        (hF.closed j _ hlj (by simp)) i (by
         have e:L'.getD j []=L'[j]'(by omega):=by simp[List.getD,Uq (show j<L'.length by omega)]
         rw[e];exact h1)
       rw[Xo]at this;cases this
      ·exact h1
     refine⟨Br (fun s d hm=>?_),rX (fun j B hB=>?_)⟩
     ·rcases Vp.1 hm with hm | hm
      ·exact eH f1 (kY hm).1
      ·obtain⟨j,oj,kj,q1,q2,q3,q4,rfl⟩:=gU hm
       exact(YQ j kj q2 q3).1
     ·have W3:(st.heap++d8 st.heap.length ks (WO C'))[j]?=some B:=hB
      by_cases hj2:j<st.heap.length
      ·rw[UD hj2]at W3;exact dZ f2 W3
      ·rw[UE (by omega)]at W3
       generalize Yi:j-st.heap.length=q at W3
       have Zh:q<ks.length:=by
        have:=(Up.1 W3).1
        rwa [eu]at this
       have Zi:ks[q]?=some ks[q]:=Uq Zh
       rcases lW Zi W3 with rfl | ⟨g1,_,_,g4⟩
       ·rfl
       ·rcases g4 with ⟨_,rfl⟩ | g5
        ·exact(YQ q _ Zi g1).2
        ·obtain⟨p',kp,p1,p2,_,rfl⟩:=gT g5
         rw[U5]at p2
         exact(YQ p' kp p1 p2).2
    have hkill:∀(u:Value) (w':World) (YT:Nat) (A0 B0:aC),ki.kl=some YT→sti.heap[YT]?=some A0→A0.isArr=true→B0.isArr=true→w.grownBy w' (aO (μ YT))→aN S μ w' u B0→(∀b,cx u b→aO (μ YT)=some b∨w.heap.size≤b) →
      ((ki.b=B0∧ki.d=.own sti.heap.length)∨∃(E sz:Nat) (α:Type) (enc:α→List V) (d:α) (l:List α),B0=.arr E sz enc d l∧ki.b=.dead∧ki.d=.v (.sl sz enc d l))→∃S' μ',bk C S' μ' (ff (ops.take m) st ks (WO (C'.setIfInBounds i true))) (a'.put o.dst u) w':=by
     intro u w' YT A0 B0 XL hA0 hAa Z2 Zj I' WB hval
     obtain⟨k1,k2,_⟩:=jz Xk XM XL
     have ZB:ki.fil=none:=Lm (by
      rcases hval with ⟨e1,_⟩ | ⟨_,_,_,_,_,_,_,e1,_⟩
      ·exact .inl (by rw[e1];exact(aC.isOwn_arr Z2))
      ·exact .inr e1)
     obtain⟨f1,f2⟩:=hfr2 (.inr (by rw[XL];rfl))
     have hAl:A0.live=true:=by cases A0<;>first | rfl | cases hAa
     have hBl:B0.live=true:=by cases B0<;>first | rfl | cases Z2
     have hAct:(ff (ops.take m) st ks (WO C')).heap[YT]?=some A0:=by
      refine(hview YT A0 hA0).resolve_left (fun e=>?_)
      rw[e]at hAl;cases hAl
     have Xt:YT≠st.heap.length+i:=fun e=>by rw[e,X2]at hAct;cases hAct;cases hAl
     have h1:=hRL.alias hAct hAa X2 f1 f2
     have hPl:st.heap.length+i<(ff (ops.take m) st ks (WO C')).heap.length:=by rw[hlenA];omega
     have hidl:YT<(ff (ops.take m) st ks (WO C')).heap.length:=(Up.1 hAct).1
     let H1:=((ff (ops.take m) st ks (WO C')).heap.set YT .dead).set (st.heap.length+i) A0
     have hH1P:H1[st.heap.length+i]?=some A0:=UI (by rw[UQ];exact hPl)
     have hH1:∀j,j≠st.heap.length+i→j≠YT→H1[j]?=(ff (ops.take m) st ks (WO C')).heap[j]?:=fun j h1 h2=>by
      show(((ff (ops.take m) st ks (WO C')).heap.set YT .dead).set (st.heap.length+i) A0)[j]?=_
      rw[UF (Wx h1),UF (Wx h2)]
     have hfH1:cF (st.heap.length+i) H1=true:=rX (fun j B hB=>by
      by_cases e1:j=st.heap.length+i
      ·rw[e1,hH1P]at hB;cases hB;cases A0<;>first | rfl | cases hAa
      ·by_cases e2:j=YT
       ·subst e2
        have:H1[j]?=some .dead:=by
         show(((ff (ops.take m) st ks (WO C')).heap.set j .dead).set (st.heap.length+i) A0)[j]?=_
         rw[UF (Wx e1),UI hidl]
        rw[this]at hB;cases hB;rfl
       ·rw[hH1 j e1 e2]at hB;exact dZ f2 hB)
     have h2:=h1.upd0 (id:=st.heap.length+i) (B:=B0) (row:=aO (μ YT)) (u:=u) Zj (fun k hk=>⟨A0,hH1P,hAl,by rw[aG];exact .inl hk⟩) (by show _≤H1.length;simp[H1];omega) (I'.arrMu (aC.isOwn_arr Z2)) WB (.inr ⟨f1,hfH1⟩) (nq Z2)
     have hset:cA H1 (st.heap.length+i) B0=H1.set (st.heap.length+i) B0:=by
      unfold cA
      rw[Ur (by
       intro hh;rw[UH]at hh
       have:H1.length=(ff (ops.take m) st ks (WO C')).heap.length:=by simp[H1]
       omega)]
     have h2':bk C S (br (br μ (st.heap.length+i) (μ YT)) (st.heap.length+i) u) ⟨(ff (ops.take m) st ks (WO C')).env,H1.set (st.heap.length+i) B0⟩ a' w':=by rw[← hset];exact h2
     have V':aq S (br (br μ (st.heap.length+i) (μ YT)) (st.heap.length+i) u) w' (.own (st.heap.length+i)) u:=by
      have:=aq.own (S:=S) (μ:=br (br μ (st.heap.length+i) (μ YT)) (st.heap.length+i) u) (w:=w') (st.heap.length+i)
      rwa [aG]at this
     have h3:=h2'.put htn V'
     rw[← Z1]at h3
     have hH1l:H1.length=(ff (ops.take m) st ks (WO C')).heap.length:=by simp[H1]
     have hlive3:∀(j:Nat) (B:aC),(ff (ops.take m) st ks (WO (C'.setIfInBounds i true))).heap[j]?=some B→B=.dead∨(j=st.heap.length+i∧B=ki.b)∨(j≠st.heap.length+i∧H1[j]?=some B∧aC.free (st.heap.length+i) B=true):=by
      intro j B hB
      have W3:(st.heap++d8 st.heap.length ks (WO (C'.setIfInBounds i true)))[j]?=some B:=hB
      by_cases hj2:j<st.heap.length
      ·rw[UD hj2]at W3
       have ZG:(ff (ops.take m) st ks (WO C')).heap[j]?=some B:=by
        show(st.heap++d8 st.heap.length ks (WO C'))[j]?=some B
        rw[UD hj2];exact W3
       exact .inr (.inr ⟨by omega,by rw[hH1 j (by omega) (by omega)];exact ZG,dZ f2 ZG⟩)
      ·rw[UE (by omega)]at W3
       rcases W2 ZB _ B W3 with q1 | ⟨q1,rfl⟩ | ⟨q1,q2,q3⟩
       ·exact .inl q1
       ·exact .inr (.inl ⟨by omega,rfl⟩)
       ·have ZG:(ff (ops.take m) st ks (WO C')).heap[j]?=some B:=by
         show(st.heap++d8 st.heap.length ks (WO C'))[j]?=some B
         rw[UE (by omega)];exact q2
        have hjid:j≠YT:=fun e=>by
         rw[show st.heap.length+(j-st.heap.length)=YT by omega,vw (bs:=WO (C'.setIfInBounds i true)) XM (by rw[ls',Uw rfl]) (by rw[NX ZB];exact XL)]at q3
         cases q3
        exact .inr (.inr ⟨by omega,by rw[hH1 j (by omega) hjid];exact ZG,dZ f2 ZG⟩)
     rcases hval with ⟨e1,e2⟩ | ⟨E,sz,α,enc,d,l,rfl,e1,e2⟩
     ·refine⟨_,_,join0 t Z1 S _ u w' _ _ h3 (fun s d hm hs=>UT _ (kZ hm hs)) (by rw[e2,hsl];exact UX ..) (fun j B hB=>?_)⟩
      rcases hlive3 j B hB with q1 | ⟨rfl,rfl⟩ | ⟨q1,q2,_⟩
      ·exact .inl q1
      ·refine .inr ?_
       rw[UI (by rw[hH1l];exact hPl),e1]
      ·refine .inr ?_
       rw[UF (Wx q1)];exact q2
     ·have hbx:(H1.set (st.heap.length+i) (aC.arr E sz enc d l))[st.heap.length+i]?=some (aC.arr E sz enc d l):=UI (by rw[hH1l];exact hPl)
      obtain⟨S3,h4⟩:=h3.freezeZ (id:=st.heap.length+i) (Z:=aC.arr E sz enc d l) (z:=.sl (.sl sz enc d l)) hbx rfl (j6 (h3.heap.box _ _ hbx) (fun b hb=>.inl hb) (fun b hb=>.inr hb) h3.slt)
      refine⟨S3,_,join0 t Z1 S3 _ u w' _ _ h4 (fun s d' hm hs=>?_) ?_ (fun j B hB=>?_)⟩
      ·have:=wt (id:=st.heap.length+i) (x:=.sl (.sl sz enc d l)) (UT (t,D.own (st.heap.length+i)) (kZ (t:=t) hm hs))
       rwa [tq d' (eH f1 hm)]at this
      ·have:=wt (id:=st.heap.length+i) (x:=.sl (.sl sz enc d l)) (UX (a:=(t,D.own (st.heap.length+i))) (l:=uA (ff (ops.take m) st ks (WO C')).env t))
       have e:fG (st.heap.length+i) (.sl (.sl sz enc d l)) (.own (st.heap.length+i))=.v (.sl sz enc d l):=by simp[fG,Fz.own]
       rw[e2,← e]
       exact this
      ·rcases hlive3 j B hB with q1 | ⟨_,rfl⟩ | ⟨q1,q2,q3⟩
       ·exact .inl q1
       ·exact .inl e1
       ·refine .inr ?_
        show((p6 (st.heap.length+i) (.sl (.sl sz enc d l)) (H1.set (st.heap.length+i) (aC.arr E sz enc d l))).set (st.heap.length+i) .dead)[j]?=some B
        rw[UF (Wx q1),kU,UF (Wx q1),q2,U4,GU B q3]
    rw[IC hns]at hq
    refine PJ hnd ho (qa.uponIn (Du hRi.heap hRi.slt hRi.glob (fun x=>hRi.eval x) hq hp (R:=fun u w'=>∃S' μ',bk C S' μ' (ff (ops.take m) st ks (WO (C'.setIfInBounds i true))) (a'.put o.dst u) w') ?_) (fun u w' hex=>?_))
    ·rintro u w' (⟨XL,Yj,hc⟩ | ⟨YT,A0,B0,XL,hA0,hAa,Z2,Zj,I',WB,hval⟩)
     rotate_left
     ·exact hkill u w' YT A0 B0 XL hA0 hAa Z2 Zj I' WB hval
     rcases hc with ⟨hbd,hd⟩ | ⟨obj,Xx,rfl,I',hd,WB⟩ | ⟨S2,μ1,u0,hBA,s1,s2,s3,I',hd,WB⟩
     ·-- no box
      refine⟨fun b=>S b∨(w.heap.size≤b∧b<w'.heap.size),μ,join t Z1 htn (wm XL) _ μ u w' (H':=(ff (ops.take m) st ks (WO C')).heap.set (st.heap.length+i) ki.b) ?_ rfl ?_⟩
      ·rw[hbd,Bq X2]
       exact hRL.grow Yj.os Yj.tape Yj.output Yj.size Yj.block (fun b hb=>.inl hb) (fun b hb=>hb.imp (fun h=>h) (fun h=>h.1)) (fun b hb=>by
        rcases hb with hb | hb
        ·exact Vl (hRL.slt b hb) Yj.size
        ·exact hb.2)
      ·exact hd.stable (fun b hb hl=>hb.imp (fun h=>h) (fun h=>⟨h,hl⟩)) (fun _ _ _=>rfl) (Ut _) (fun _ _=>rfl)
     ·-- a new box
      rw[hsl]at I' hd
      refine⟨S,br μ (st.heap.length+i) u,join t Z1 htn (wm XL) S _ u _ (H':=cA (ff (ops.take m) st ks (WO C')).heap (st.heap.length+i) ki.b) ?_ ?_ hd⟩
      ·refine hRL.upd0 (VE w obj none) (fun k hk=>by cases hk) ?_ I' (fun b hb=>.inr (by rw[WB b hb];exact Ut _)) ?_ (GK Xx)
       ·have:=(Up.1 X2).1;omega
       ·refine .inr ?_
        exact hfr2 (.inl Xx)
      ·unfold cA
       rw[Ur (by
        have:=(Up.1 X2).1
        intro hh;rw[UH]at hh;omega)]
     ·-- a box that a call hands over
      rw[hsl]at hd
      have Xx:ki.b.live=true:=by cases hkb:ki.b<;>first | rfl | (rw[hkb]at hBA;cases hBA)
      refine⟨S2,br μ (st.heap.length+i) u0,join t Z1 htn (wm XL) S2 _ u _ (H':=(ff (ops.take m) st ks (WO C')).heap.set (st.heap.length+i) ki.b) ?_ rfl hd⟩
      have hG:bk C S2 μ (ff (ops.take m) st ks (WO C')) a' w':=hRL.grow Yj.os Yj.tape Yj.output Yj.size Yj.block s1 s2 s3
      refine hG.addAt X2 (hfr2 (.inl Xx)).1 (hfr2 (.inl Xx)).2 hBA I' (fun b hb=>?_)
      obtain⟨k1,k2⟩:=WB b hb
      refine⟨U6 hRL.size k1,k2,fun j A hA la XK=>?_⟩
      have:=(hRL.heap.box j A hA).lt la b XK
      omega
    ·obtain⟨S',μ',Xj⟩:=hex
     exact next S' μ' u w' Xj
   ·rw[XM]at hk
    cases hk
    rw[Ur (by rw[dH hRi hg];simp)]
    refine⟨fun f _=>te C.rd f,next S μ undef w (join t Z1 htn rfl S μ undef w (H':=(ff (ops.take m) st ks (WO C')).heap.set (st.heap.length+i) .dead) ?_ rfl (.tup [] #[] rfl (fun j y u hy _=>by simp at hy)))⟩
    rw[Bq X2]
    exact hRL
 have h0:bk C S μ (ff (ops.take m) st ks (WO (Array.replicate ops.toArray.size false))) a w.drew:=by
  have hd:bk C S μ st a w.drew:=hR.grow rfl rfl rfl (Ut _) (fun _ _=>rfl) (fun _ h=>h) (fun _ h=>.inl h) hR.slt
  have hf:∀j,(WO (Array.replicate ops.toArray.size false)).getD j false=false:=by
   intro j
   by_cases hj:j<m
   ·rw[eX _ m j hj];simp[Array.getD]
   ·exact tC _ m j (by omega)
  have h1:=hd.weak (env:=(ff (ops.take m) st ks (WO (Array.replicate ops.toArray.size false))).env) (fun s d hm=>.inr ?_)
  ·refine h1.heapTo (fun j B hB=>?_)
   have W3:(st.heap++d8 st.heap.length ks (WO (Array.replicate ops.toArray.size false)))[j]?=some B:=hB
   by_cases hj:j<st.heap.length
   ·rw[UD hj]at W3;exact .inr W3
   ·rw[UE (by omega)]at W3
    generalize hjj:j-st.heap.length=q at W3
    have Zh:q<ks.length:=by
     have:=(Up.1 W3).1
     rwa [eu]at this
    rw[oW _ _ _ _ _ (Uq Zh),hf q,Ur (by simp)]at W3
    cases W3
    exact .inl rfl
  ·rcases Vp.1 hm with hm | hm
   ·exact(kY hm).1
   ·obtain⟨j,oj,kj,q1,q2,q3,q4,rfl⟩:=gU hm
    rw[hf j]at q3;cases q3
 have key:=main m (Array.replicate ops.toArray.size false) (fun _=>undef) S μ a w.drew ?_ h0 (qb _ _ (by rw[WE];exact hmn)) (fun i _=>by simp[Array.getD])
 ·rw[show m+(ops.toArray.size-m)=ops.toArray.size from by rw[WE];omega]at key
  exact wpIn_region_any hmix key
 ·have hf:∀k,(Array.replicate ops.toArray.size false).getD k false=true→False:=by
   intro k hk
   simp[Array.getD]at hk
  exact⟨by simp,fun i o h=>(hf i h).elim,rfl,rfl,fun _ _=>rfl,fun j t h=>(hf j h).elim⟩
theorem Ev.dw {id:Nat} {ops:List Oper} {st:St} {Q:Exit→St→Prop} (WS:List (Nat×Ov)) (m:Nat) (h:N1 C.P C.nt ops WS m st (fun Xl=>Q .normal Xl)):Ev C (.region id ops.toArray true) Q st:=by
 unfold N1 at h
 obtain⟨L',ks,Xm,XL,_,_,hK,hmk⟩:=IH (ops.take m) 0 [] [] rfl rfl h
 simp only[U5]at Xm XL hmk
 cases hb:N0 C.nt ops m&&(nM st st.heap.length 0 L' ks L' ks&&qP st.heap.length L' ks)&&C.P.follows .mixedOrders with
 | false=>rw[hb]at hK;exact hK.elim
 | true =>
 rw[hb]at hK
 simp only[Uo]at hb
 obtain⟨⟨hdw,Yp,Xk⟩,hmix⟩:=hb
 unfold N0 at hdw
 simp only[Uo]at hdw
 obtain⟨⟨⟨⟨hrok,Zk⟩,hdst⟩,hdd⟩,hndb⟩:=hdw
 have hmn:m≤ops.length:=by have:=(qD Zk).1;simpa using this
 have WE:ops.toArray.size=ops.length:=by simp
 obtain⟨htp,htq⟩:=vu _ _ _ _ hK
 refine Ev.dwG WS m (fun _=>false) hmn Xm XL hmk hrok hdst hdd hndb Yp Xk hmix (fun i hi hil j hj _=>(qD Zk).2 i hi (by rw[WE];exact hil) j (by omega)) ?_
 intro C' S μ a' w hls hcl hRL hall Xu
 have hall:∀i,i<m→C'.getD i false=true:=fun i hi=>hall i hi rfl
 have XG:K6 ops.toArray zE a':=AV (Bj hrok (by simp[hRL.tsize]) rfl rfl)
 have hu:CP C' m=0:=by
  have:∀n,n≤m→CP C' n=0:=by
   intro n
   induction n with
   | zero=>intro _;rfl
   | succ n ihn=>intro XX;simp[CP,ihn (by omega),hall n (by omega)]
  exact this m (Ut _)
 rw[hu,U5,← WE]
 refine y9 XG Zk (ops.toArray.size-m) m C' a' w (Ut _) (by omega) (by rw[hls,WE]) hall Xu ?_
 have el:((List.range m).map fun j=>C'.getD j false)=List.replicate m true:=by
  apply Vt
  ·simp
  ·intro j h1 h2
   simp only[Wj,List.getElem_range,List.getElem_replicate]
   exact hall j (by simpa using h1)
 rw[el]at hRL
 have hl:=rR (Q:=fun e a' w'=>∃P' S' μ',Q e P'∧bk C S' μ' P' a' w') (ops.drop m) m _ S μ _ w _ hRL rfl htp (fun S' μ' a' w' Xj=>⟨_,S',μ',htq,Xj⟩)
 have e:=wpOpsIn_eq_wpListIn (F:=qE C.rd) (n:=0) (P:=C.P) (ops:=ops.toArray) (Q:=fun e a' w'=>∃P' S' μ',Q e P'∧bk C S' μ' P' a' w') (ops.drop m) m (fun j=>by simp)
 rw[UW]at e
 rw[WE,e]
 exact hl
end
end Go.Proofs.YtnlmlkbaflmgcaaGreat
