/- Parts of a proof. -/
import Derived.Test.YtcejcppjedhicaaQKb
namespace Go.Proofs.Ytcejcppjedhicaa
open Go.RowKit
set_option linter.unusedVariables false
set_option linter.unusedSimpArgs false
theorem rN {P:Program} {w:World} {t:TypeId}:(Instr.makeMap t none).run P w=.ok (.map (some w.heap.size)) (w.alloc (.map #[] 0)):=by
 simp[Instr.makeMap,newObj,Sem.run]
theorem t0 {P:Program} {w:World} {t K E:TypeId} {arr:Array MapEntry} {clock:Nat} {k:Int} {v:Value} (ht:P.underlying t=some (.map K E)) (hK:P.underlying K=some (.int .i64)) (hf:Instr.findNow (.int .i64) (.int .i64 k) arr.toList 0=some none) :
  (Instr.mapUpdate t (.map (some w.heap.size)) (.int .i64 k) v).run P (w.alloc (.map arr clock))=.ok () (w.alloc (.map (arr.push ⟨.int .i64 k,v,clock⟩) (clock+1))):=by
 have hu:∀w,(underlying t).run P w=.ok (.map K E) w:=fun w=>by simp[underlying,ht,NP,Sem.run]
 have Rz:∀w,(underlying K).run P w=.ok (.int .i64) w:=fun w=>by simp[underlying,hK,NP,Sem.run]
 have hb:(w.alloc (.map arr clock)).heap[w.heap.size]?=some (.map arr clock):=OM w _
 have hg:(getObj w.heap.size).run P (w.alloc (.map arr clock))=.ok (.map arr clock) (w.alloc (.map arr clock)):=by
  unfold getObj Sem.run
  rw[hb]
  rfl
 have hc:(Instr.checkKey false 10000 K (.int .i64 k)).run P (w.alloc (.map arr clock))=.ok () (w.alloc (.map arr clock)):=by
  rw[show(10000:Nat)=9999+1 from rfl]
  unfold Instr.checkKey
  simp[NP,Rz]
 have hk:(Instr.findKey K (.int .i64 k) arr.toList).run P (w.alloc (.map arr clock))=.ok none (w.alloc (.map arr clock)):=by
  simp[Instr.findKey,NP,Rz,hf]
 have hs:∀o:Obj,(setObj w.heap.size o).run P (w.alloc (.map arr clock))=.ok () (w.alloc o):=by
  intro o
  unfold setObj Sem.run
  rw[hb]
  have hh:(w.heap.push (.map arr clock)).setIfInBounds w.heap.size o=w.heap.push o:=by
   apply Array.ext
   ·simp
   ·intro i h1 h2
    simp only[Array.size_push]at h2
    by_cases hi:i=w.heap.size
    ·subst hi;simp
    ·rw[Array.getElem_setIfInBounds_ne (by simp;omega) (PN hi)]
     simp[Array.getElem_push,show i<w.heap.size by omega]
  show Result.ok () (⟨(w.heap.push (.map arr clock)).setIfInBounds w.heap.size o,w.tape,w.drawn,w.os,w.output⟩:World)=.ok () ⟨w.heap.push o,w.tape,w.drawn,w.os,w.output⟩
  rw[hh]
 simp[Instr.mapUpdate,NP,hu,hg,hc,hk,hs]
theorem ap.of_map {P:Program} {f:FuncId} {n:Nat} {es:List (Int×Value)} (h:∀w:World,Calls P f #[] w (fun e w'=>∃arr:Array MapEntry,e=.returned (.map (some w.heap.size))∧w'=w.alloc (.map arr n)∧arr.toList.map (fun e=>(e.key,e.val))=es.map (fun e=>(Value.int .i64 e.1,e.2)))) :
  ap P f [] [] false (.v (.mp es)) []:=by
 intro S μ w us hS _ hH QF
 have h0:us=#[]:=Array.eq_empty_of_size_eq_zero QF.1
 subst h0
 refine(h w).mono ?_
 rintro e w' ⟨arr,rfl,rfl,he⟩
 have hb:Below w.heap.size w (w.alloc (.map arr n)):=(Below.refl _ w).alloc (NN _) _
 have Qk:(w.alloc (.map arr n)).heap.size=w.heap.size+1:=by simp
 refine⟨_,μ,fun b=>S b∨b=w.heap.size,rfl,hb.os,hb.tape,hb.output,hb.size,fun k hk _=>hb.block k hk,fun _ h=>.inl h,fun b h=>h.imp id (fun h=>by omega),fun b QJ=>QJ.elim (fun h=>by have:=hS b h;omega) (fun h=>by omega),.v _ _ (.mp es w.heap.size n arr ⟨.inr rfl,.inr (NN _)⟩ (by omega) (OM w _) he),⟨fun id B hB=>by simp at hB,fun i j A B b hA=>by simp at hA,fun i A b hA=>by simp at hA⟩,fun i A b hA=>by simp at hA,fun i A hA=>by simp at hA⟩
theorem dP {a:Nat} (h:a<9223372036854775808):(BitVec.ofInt (IntKind.i64).bits (a:Int)).toNat=a:=by
 show(BitVec.ofInt 64 (a:Int)).toNat=a
 rw[BitVec.toNat_ofInt]
 omega
theorem io {a:Nat} (h:a<9223372036854775808):IntKind.wrap .i64 (a:Int)=(a:Int):=by
 rw[IntKind.wrap_i64];omega
theorem La {a b:Nat} (ha:a<9223372036854775808) (hb:b<9223372036854775808):IntKind.wrap .i64 ((BitVec.ofInt (IntKind.i64).bits (a:Int) &&& BitVec.ofInt (IntKind.i64).bits (b:Int)).toNat:Int)=((a &&& b:Nat):Int):=by
 rw[BitVec.toNat_and,dP ha,dP hb]
 exact io (Nat.lt_of_le_of_lt Nat.and_le_left ha)
theorem Lb {a b:Nat} (ha:a<9223372036854775808) (hb:b<9223372036854775808):IntKind.wrap .i64 ((BitVec.ofInt (IntKind.i64).bits (a:Int) ||| BitVec.ofInt (IntKind.i64).bits (b:Int)).toNat:Int)=((a ||| b:Nat):Int):=by
 rw[BitVec.toNat_or,dP ha,dP hb]
 exact io (Nat.or_lt_two_pow (n:=63) ha hb)
theorem Lc {a b:Nat} (ha:a<9223372036854775808) (hb:b<9223372036854775808):IntKind.wrap .i64 ((BitVec.ofInt (IntKind.i64).bits (a:Int) ^^^ BitVec.ofInt (IntKind.i64).bits (b:Int)).toNat:Int)=((a ^^^ b:Nat):Int):=by
 rw[BitVec.toNat_xor,dP ha,dP hb]
 exact io (Nat.xor_lt_two_pow (n:=63) ha hb)
theorem lu {x:Int} {n:Nat} (hn:n≤62):IntKind.wrap .i64 ((BitVec.ofInt (IntKind.i64).bits x &&& BitVec.ofInt (IntKind.i64).bits ((2:Int)^n-1)).toNat:Int)=x%2^n:=by
 have hp:(2:Nat)^n≤2^62:=Pv (by omega) hn
 have Tl:1≤(2:Nat)^n:=Nat.one_le_two_pow
 have e:((2:Int)^n-1)=((2^n-1:Nat):Int):=by
  have:((2:Int)^n)=((2^n:Nat):Int):=by simp
  rw[this]
  omega
 rw[e,BitVec.toNat_and,dP (by omega)]
 rw[Nat.and_two_pow_sub_one_eq_mod]
 have h1:(BitVec.ofInt (IntKind.i64).bits x).toNat%2^n<2^n:=Nat.mod_lt _ (by omega)
 rw[io (by omega)]
 show(((BitVec.ofInt 64 x).toNat%2^n:Nat):Int)=x%2^n
 rw[BitVec.toNat_ofInt]
 have h2:((2^n:Nat):Int) ∣ ((2^64:Nat):Int):=Int.natCast_dvd_natCast.2 (Nat.pow_dvd_pow 2 (by omega))
 have h3:(((x%((2^64:Nat):Int)).toNat:Nat):Int)=x%((2^64:Nat):Int):=PL (Pm _ (by decide))
 have e3:(((2^n:Nat)):Int)=2^n:=by simp
 have e4:∀a b:Nat,((a%b:Nat):Int)=(a:Int)%(b:Int):=fun a b=>by first | exact Int.natCast_emod a b | exact Int.ofNat_emod a b | simp
 rw[e4,h3,← e3]
 exact Int.emod_emod_of_dvd x h2
def aB (n:Int):Bool:=decide (1≤n)&&decide (n≤8)
theorem bf {n:Int}:aB n=true↔1≤n∧n≤8:=by simp[aB]
def ao (w:Int):Int:=if w<0∨62<w then 0 else 2^w.toNat-1
theorem dr {w:Int} (h:0≤w) (h2:w≤62):ao w=2^w.toNat-1:=NQ (by omega)
theorem aC {w:Int} (h:0≤w) (h2:w≤8):0≤ao w∧ao w≤255:=by
 have:w=0∨w=1∨w=2∨w=3∨w=4∨w=5∨w=6∨w=7∨w=8:=by omega
 rcases this with rfl | rfl | rfl | rfl | rfl | rfl | rfl | rfl | rfl<;>decide
theorem lx {n:Nat} (h:n≤62):(1:Int)≤2^n∧(2:Int)^n≤4611686018427387904:=by
 have hp:(2:Nat)^n≤2^62:=Pv (by omega) h
 have Tl:1≤(2:Nat)^n:=Nat.one_le_two_pow
 have e:((2:Int)^n)=((2^n:Nat):Int):=by simp
 rw[e]
 omega
theorem Ht {w:Int} (h0:0≤w) (h:w≤62):IntKind.wrap .i64 (1*2^min w.toNat 64)=2^w.toNat:=by
 have hp:=lx (n:=w.toNat) (by omega)
 rw[P6 (by omega),Int.one_mul,IntKind.wrap_i64]
 omega
abbrev SH (w:Int):Prop:=0≤w∧IntKind.i64.wrap (1*2^min w.toNat 64)=2^w.toNat
theorem sh {w:Int} (h0:0≤w:=by omega) (h:w≤62:=by omega):SH w:=⟨h0,Ht h0 h⟩
def bD (op:Int):Int:=if op=1 then 0 else if op=2∨op=12∨op=13 then 1 else if op=10 then 3 else if 3≤op∧op≤11 then 2 else -1
def g (l:List Int) (i:Nat):Int:=l.getD i 0
def bX (ws:List Int):Int:=if ws.getD 0 0≠ws.getD 1 0 then 0 else ws.getD 0 0
def bj (op:Int) (ws:List Int) (k w:Int):Int :=
 if op=1 then (if aB w=false∨k<0∨ao w<k then 0 else w)
 else if op=2 then ws.getD 0 0
 else if op=8∨op=9 then min (bX ws) 1
 else if op=10 then (if ws.getD 0 0≠1∨ws.getD 1 0≠ws.getD 2 0 then 0 else ws.getD 1 0)
 else if op=11 then ws.getD 0 0+ws.getD 1 0
 else if op=12 then (if aB w=false∨k<0∨ws.getD 0 0-w<k then 0 else w)
 else if op=13 then (if w<ws.getD 0 0 then 0 else w)
 else bX ws
def nq (op:Int) (ws:List Int) (k w:Int):Bool:=decide ((ws.length:Int)=bD op)&&ws.all aB&&aB (bj op ws k w)
def nr (op:Int) (ws ys:List Int) (k w:Int):Int :=
 if op=1 then k
 else if op=2 then (((ys.getD 0 0).toNat ^^^ (ao (ws.getD 0 0)).toNat:Nat):Int)
 else if op=3 then (((ys.getD 0 0).toNat &&& (ys.getD 1 0).toNat:Nat):Int)
 else if op=4 then (((ys.getD 0 0).toNat ||| (ys.getD 1 0).toNat:Nat):Int)
 else if op=5 then (((ys.getD 0 0).toNat ^^^ (ys.getD 1 0).toNat:Nat):Int)
 else if op=6 then (ys.getD 0 0+ys.getD 1 0)%2^(ws.getD 0 0).toNat
 else if op=7 then (ys.getD 0 0-ys.getD 1 0)%2^(ws.getD 0 0).toNat
 else if op=8 then (if ys.getD 0 0=ys.getD 1 0 then 1 else 0)
 else if op=9 then (if ys.getD 0 0<ys.getD 1 0 then 1 else 0)
 else if op=10 then ys.getD (2-ys.getD 0 0).toNat 0
 else if op=11 then (((ys.getD 0 0).toNat*2^(ws.getD 1 0).toNat ||| (ys.getD 1 0).toNat:Nat):Int)
 else if op=12 then (ys.getD 0 0 / 2^k.toNat)%2^w.toNat
 else ys.getD 0 0
def DI (ws ys:List Int):Bool:=(List.range ys.length).all fun i=>decide (0≤ys.getD i 0)&&decide (ys.getD i 0≤ao (ws.getD i 0))
def dZ (op:Int) (ws ys P':List Int):Bool:=decide (P'.length=2)&&decide (ys.length=ws.length)&&nq op ws (P'.getD 0 0) (P'.getD 1 0)&&DI ws ys
def dy (op:Int) (ws ys P':List Int):Int:=if dZ op ws ys P' then nr op ws ys (P'.getD 0 0) (P'.getD 1 0)else 0
def gE (op:Int) (ws ys P':List Int):Int:=if dZ op ws ys P' then 0 else 1
def fO (op:Int) (ws:List Int) (k w:Int):Int:=if nq op ws k w then bj op ws k w else 0
def ly (op:Int) (ws:List Int) (k w:Int):Int:=if nq op ws k w then 0 else 1
def qO:Nat→List Int→Int
 | _,[]=>-1
 | n,x::l=>if aB x then qO (n+1) l else (n:Int)
theorem v7:∀(l:List Int) (n:Nat),decide (0≤qO n l)=!(l.all aB)
 | [],n=>by simp[qO]
 | x::l,n=>by
  unfold qO
  rw[PX]
  cases h:aB x
  ·simp
  ·simp only[Pe,Pw]
   exact v7 l (n+1)
theorem v8 {ws:List Int} {k:Nat} (h:k<ws.length):qO k (ws.drop k)=if aB (ws.getD k 0)then qO (k+1) (ws.drop (k+1))else (k:Int):=by
 rw[List.drop_eq_getElem_cons h]
 simp[qO,List.getD,NM h]
theorem aE {ws:List Int} (h:ws.all aB=true) {i:Nat} (hi:i<ws.length):1≤ws.getD i 0∧ws.getD i 0≤8:=by
 rw[Oa]at h
 have:=h (ws.getD i 0) (by simp[List.getD,NM hi])
 exact bf.1 this
theorem a8 {ws xs:List Int} (h:DI ws xs=true) {i:Nat} (hi:i<xs.length):0≤xs.getD i 0∧xs.getD i 0≤ao (ws.getD i 0):=by
 unfold DI at h
 rw[Oa]at h
 have:=h i (OJ.2 hi)
 simp only[NK,OO]at this
 exact this
theorem v9 {a b:Int} (h1:0≤a) (h2:a<9223372036854775808) (h3:0≤b) (h4:b<9223372036854775808):IntKind.wrap .i64 ((BitVec.ofInt (IntKind.i64).bits a ^^^ BitVec.ofInt (IntKind.i64).bits b).toNat:Int)=((a.toNat ^^^ b.toNat:Nat):Int):=by
 obtain⟨n,rfl⟩:=OT h1
 obtain⟨m,rfl⟩:=OT h3
 exact Lc (by omega) (by omega)
theorem DJ {a b:Int} (h1:0≤a) (h2:a<9223372036854775808) (h3:0≤b) (h4:b<9223372036854775808):IntKind.wrap .i64 ((BitVec.ofInt (IntKind.i64).bits a &&& BitVec.ofInt (IntKind.i64).bits b).toNat:Int)=((a.toNat &&& b.toNat:Nat):Int):=by
 obtain⟨n,rfl⟩:=OT h1
 obtain⟨m,rfl⟩:=OT h3
 exact La (by omega) (by omega)
theorem Fo {a b:Int} (h1:0≤a) (h2:a<9223372036854775808) (h3:0≤b) (h4:b<9223372036854775808):IntKind.wrap .i64 ((BitVec.ofInt (IntKind.i64).bits a ||| BitVec.ofInt (IntKind.i64).bits b).toNat:Int)=((a.toNat ||| b.toNat:Nat):Int):=by
 obtain⟨n,rfl⟩:=OT h1
 obtain⟨m,rfl⟩:=OT h3
 exact Lb (by omega) (by omega)
theorem wc {a:Nat} {n:Nat} (ha:a≤255) (hn:n≤8):a*2^n≤65280:=by
 have:2^n≤2^8:=Pv (by omega) hn
 calc a*2^n≤255*2^8:=PS ha this
  _=65280:=by decide
theorem Hu {a n:Int} (ha:0≤a∧a≤255) (hn:0≤n∧n≤8):IntKind.wrap .i64 (a*2^min n.toNat 64)=((a.toNat*2^n.toNat:Nat):Int):=by
 obtain⟨x,rfl⟩:=OT ha.1
 obtain⟨m,rfl⟩:=OT hn.1
 have hb:=wc (a:=x) (n:=m) (by omega) (by omega)
 rw[PI,PI,P6 (by omega)]
 have e:((x:Int)*2^m)=((x*2^m:Nat):Int):=by simp
 rw[e]
 exact io (by omega)
theorem Hv {a b n:Int} (ha:0≤a∧a≤255) (hn:0≤n∧n≤8) (hb:0≤b∧b≤255):IntKind.wrap .i64 ((BitVec.ofInt (IntKind.i64).bits ((a.toNat*2^n.toNat:Nat):Int) ||| BitVec.ofInt (IntKind.i64).bits b).toNat:Int)=((a.toNat*2^n.toNat ||| b.toNat:Nat):Int):=by
 have h:=wc (a:=a.toNat) (n:=n.toNat) (by omega) (by omega)
 obtain⟨m,rfl⟩:=OT hb.1
 exact Lb (by omega) (by omega)
theorem Ck {a n:Int} (h:0≤n) (h2:n≤62):Int.fdiv a (2^min n.toNat 64)=a / 2^n.toNat:=by
 rw[P6 (by omega),Int.fdiv_eq_ediv_of_nonneg _ (Int.le_of_lt (Int.pow_pos (by decide)))]
theorem qQ {op:Int} {ws:List Int} {k w:Int} (h:nq op ws k w=true):(ws.length:Int)=bD op∧ws.all aB=true∧aB (bj op ws k w)=true:=by
 unfold nq at h
 simp only[NK,OO]at h
 exact⟨h.1.1,h.1.2,h.2⟩
theorem Cl {ws:List Int} {k w:Int} (h:nq 10 ws k w=true):ws.getD 0 0=1:=by
 have h3:=bf.1 (qQ h).2.2
 have e:bj 10 ws k w=(if ws.getD 0 0≠1∨ws.getD 1 0≠ws.getD 2 0 then 0 else ws.getD 1 0):=rfl
 rw[e]at h3
 split at h3
 ·omega
 ·rename_i hn
  refine OX fun hh=>hn (.inl hh)
theorem Cm {ws:List Int} {k w:Int} (h:nq 12 ws k w=true):0≤k∧k≤8∧aB w=true:=by
 obtain⟨h1,h2,h3⟩:=qQ h
 have h3:=bf.1 h3
 have e:bj 12 ws k w=(if aB w=false∨k<0∨ws.getD 0 0-w<k then 0 else w):=rfl
 rw[e]at h3
 have hA:bD 12=1:=by decide
 rw[hA]at h1
 have f0:=aE h2 (i:=0) (by omega)
 split at h3
 ·omega
 ·rename_i hn
  simp only[not_or,Bool.not_eq_false]at hn
  have:=bf.1 hn.1
  exact⟨by omega,by omega,hn.1⟩
theorem aW {op:Int} {ws xs P':List Int} (h:dZ op ws xs P'=false):dy op ws xs P'=0∧gE op ws xs P'=1:=by
 unfold dy gE
 rw[h]
 exact⟨rfl,rfl⟩
theorem eI {op:Int} {ws xs P':List Int} (h1:P'.length=2) (h2:xs.length=ws.length) (h3:nq op ws (P'.getD 0 0) (P'.getD 1 0)=true) (h4:DI ws xs=true):dy op ws xs P'=nr op ws xs (P'.getD 0 0) (P'.getD 1 0)∧gE op ws xs P'=0:=by
 have h:dZ op ws xs P'=true:=by
  unfold dZ
  rw[Og h1,Og h2,h3,h4]
  rfl
 unfold dy gE
 rw[h]
 exact⟨rfl,rfl⟩
theorem pA {op:Int} {ws xs P':List Int} (h:P'.length≠2):dZ op ws xs P'=false:=by
 unfold dZ
 rw[N5 h]
 rfl
theorem pB {op:Int} {ws xs P':List Int} (h:xs.length≠ws.length):dZ op ws xs P'=false:=by
 unfold dZ
 rw[N5 h,PT]
 rfl
theorem bZ {op:Int} {ws xs P':List Int} (h:nq op ws (P'.getD 0 0) (P'.getD 1 0)=false):dZ op ws xs P'=false:=by
 unfold dZ
 rw[h,PT]
 rfl
theorem iL {op:Int} {ws xs P':List Int} {i:Nat} (hi:i<xs.length) (h:xs.getD i 0<0∨ao (ws.getD i 0)<xs.getD i 0):dZ op ws xs P'=false:=by
 have:DI ws xs=false:=by
  rw[PY]
  intro hh
  have:=a8 hh hi
  omega
 unfold dZ
 rw[this,PT]
theorem Fp {ws xs:List Int} (h:∀i,i<xs.length→0≤xs.getD i 0∧xs.getD i 0≤ao (ws.getD i 0)):DI ws xs=true:=by
 unfold DI
 rw[Oa]
 intro i hi
 have:=h i (OJ.1 hi)
 rw[Og this.1,Og this.2]
 rfl
theorem d4 {p:Nat→Prop} {i:Nat} (h:∀j,j<i→p j) (hi:p i):∀j,j<i+1→p j:=fun j hj=>by
 rcases Nat.lt_or_ge j i with h1 | h1
 ·exact h j h1
 ·have:j=i:=by omega
  rw[this];exact hi
def yU (op:Int) (ws:List Int):Bool:=decide ((ws.length:Int)=bD op)&&ws.all aB
theorem AN (op:Int) (ws:List Int) (k w:Int):nq op ws k w=(yU op ws&&aB (bj op ws k w)):=rfl
theorem xw {op:Int} {ws:List Int} (h:yU op ws=true):(ws.length:Int)=bD op∧ws.all aB=true:=by
 unfold yU at h
 simp only[NK,OO]at h
 exact h
theorem Fq {op:Int} {ws:List Int} (h:yU op ws=false):(ws.length:Int)≠bD op∨((ws.length:Int)=bD op∧ws.all aB=false):=by
 unfold yU at h
 by_cases h1:(ws.length:Int)=bD op
 ·rw[Og h1,Pw]at h
  exact .inr ⟨h1,h⟩
 ·exact .inl h1
end Go.Proofs.Ytcejcppjedhicaa
