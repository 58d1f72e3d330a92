/- Parts of a proof. -/
import Derived.Test.YtnlmlkbaflmgcaaQKb
namespace Go.Proofs.Ytnlmlkbaflmgcaa
open Go.RowKit
set_option linter.unusedVariables false
set_option linter.unusedSimpArgs false
theorem dX {a:Nat} (h:a<9223372036854775808):(BitVec.ofInt (IntKind.i64).bits (a:Int)).toNat=a:=by
 show(BitVec.ofInt 64 (a:Int)).toNat=a
 rw[BitVec.toNat_ofInt]
 omega
theorem iE {a:Nat} (h:a<9223372036854775808):IntKind.wrap .i64 (a:Int)=(a:Int):=by
 rw[IntKind.wrap_i64];omega
theorem LP {a b:Nat} (ha:a<9223372036854775808) (hb:b<9223372036854775808):IntKind.wrap .i64 ((BitVec.ofInt (IntKind.i64).bits (a:Int) &&& BitVec.ofInt (IntKind.i64).bits (b:Int)).toNat:Int)=((a &&& b:Nat):Int):=by
 rw[BitVec.toNat_and,dX ha,dX hb]
 exact iE (Nat.lt_of_le_of_lt Nat.and_le_left ha)
theorem LQ {a b:Nat} (ha:a<9223372036854775808) (hb:b<9223372036854775808):IntKind.wrap .i64 ((BitVec.ofInt (IntKind.i64).bits (a:Int) ||| BitVec.ofInt (IntKind.i64).bits (b:Int)).toNat:Int)=((a ||| b:Nat):Int):=by
 rw[BitVec.toNat_or,dX ha,dX hb]
 exact iE (Nat.or_lt_two_pow (n:=63) ha hb)
theorem LR {a b:Nat} (ha:a<9223372036854775808) (hb:b<9223372036854775808):IntKind.wrap .i64 ((BitVec.ofInt (IntKind.i64).bits (a:Int) ^^^ BitVec.ofInt (IntKind.i64).bits (b:Int)).toNat:Int)=((a ^^^ b:Nat):Int):=by
 rw[BitVec.toNat_xor,dX ha,dX hb]
 exact iE (Nat.xor_lt_two_pow (n:=63) ha hb)
theorem lI {x:Int} {n:Nat} (hn:n≤62):IntKind.wrap .i64 ((BitVec.ofInt (IntKind.i64).bits x &&& BitVec.ofInt (IntKind.i64).bits ((2:Int)^n-1)).toNat:Int)=x%2^n:=by
 have hp:(2:Nat)^n≤2^62:=QH (by omega) hn
 have Uo:1≤(2:Nat)^n:=Nat.one_le_two_pow
 have e:((2:Int)^n-1)=((2^n-1:Nat):Int):=by
  have:((2:Int)^n)=((2^n:Nat):Int):=by simp
  rw[this]
  omega
 rw[e,BitVec.toNat_and,dX (by omega)]
 rw[Nat.and_two_pow_sub_one_eq_mod]
 have h1:(BitVec.ofInt (IntKind.i64).bits x).toNat%2^n<2^n:=Nat.mod_lt _ (by omega)
 rw[iE (by omega)]
 show(((BitVec.ofInt 64 x).toNat%2^n:Nat):Int)=x%2^n
 rw[BitVec.toNat_ofInt]
 have h2:((2^n:Nat):Int) ∣ ((2^64:Nat):Int):=Int.natCast_dvd_natCast.2 (Nat.pow_dvd_pow 2 (by omega))
 have h3:(((x%((2^64:Nat):Int)).toNat:Nat):Int)=x%((2^64:Nat):Int):=Int.toNat_of_nonneg (Qw _ (by decide))
 have e3:(((2^n:Nat)):Int)=2^n:=by simp
 have e4:∀a b:Nat,((a%b:Nat):Int)=(a:Int)%(b:Int):=fun a b=>by first | exact Int.natCast_emod a b | exact Int.ofNat_emod a b | simp
 rw[e4,h3,← e3]
 exact Int.emod_emod_of_dvd x h2
def aI (n:Int):Bool:=decide (1≤n)&&decide (n≤8)
theorem aR {n:Int}:aI n=true↔1≤n∧n≤8:=by simp[aI]
def aE (w:Int):Int:=if w<0∨62<w then 0 else 2^w.toNat-1
theorem cZ {w:Int} (h:0≤w) (h2:w≤62):aE w=2^w.toNat-1:=Pj (by omega)
theorem cH {w:Int} (h:0≤w) (h2:w≤8):0≤aE w∧aE w≤255:=by
 have:w=0∨w=1∨w=2∨w=3∨w=4∨w=5∨w=6∨w=7∨w=8:=by omega
 rcases this with rfl | rfl | rfl | rfl | rfl | rfl | rfl | rfl | rfl<;>decide
theorem lJ {n:Nat} (h:n≤62):(1:Int)≤2^n∧(2:Int)^n≤4611686018427387904:=by
 have hp:(2:Nat)^n≤2^62:=QH (by omega) h
 have Uo:1≤(2:Nat)^n:=Nat.one_le_two_pow
 have e:((2:Int)^n)=((2^n:Nat):Int):=by simp
 rw[e]
 omega
theorem HH {w:Int} (h0:0≤w) (h:w≤62):IntKind.wrap .i64 (1*2^min w.toNat 64)=2^w.toNat:=by
 have hp:=lJ (n:=w.toNat) (by omega)
 rw[Nat.min_eq_left (by omega),Int.one_mul,IntKind.wrap_i64]
 omega
abbrev SH (w:Int):Prop:=0≤w∧IntKind.i64.wrap (1*2^min w.toNat 64)=2^w.toNat
theorem sh {w:Int} (h0:0≤w:=by omega) (h:w≤62:=by omega):SH w:=⟨h0,HH h0 h⟩
def cO (op:Int):Int:=if op=1 then 0 else if op=2∨op=12∨op=13 then 1 else if op=10 then 3 else if 3≤op∧op≤11 then 2 else -1
def g (l:List Int) (i:Nat):Int:=l.getD i 0
def b8 (ws:List Int):Int:=if ws.getD 0 0≠ws.getD 1 0 then 0 else ws.getD 0 0
def fh (op:Int) (ws:List Int) (k w:Int):Int :=
 if op=1 then (if aI w=false∨k<0∨aE w<k then 0 else w)
 else if op=2 then ws.getD 0 0
 else if op=8∨op=9 then min (b8 ws) 1
 else if op=10 then (if ws.getD 0 0≠1∨ws.getD 1 0≠ws.getD 2 0 then 0 else ws.getD 1 0)
 else if op=11 then ws.getD 0 0+ws.getD 1 0
 else if op=12 then (if aI w=false∨k<0∨ws.getD 0 0-w<k then 0 else w)
 else if op=13 then (if w<ws.getD 0 0 then 0 else w)
 else b8 ws
def jc (op:Int) (ws:List Int) (k w:Int):Bool:=decide ((ws.length:Int)=cO op)&&ws.all aI&&aI (fh op ws k w)
def xE (op:Int) (ws ys:List Int) (k w:Int):Int :=
 if op=1 then k
 else if op=2 then (((ys.getD 0 0).toNat ^^^ (aE (ws.getD 0 0)).toNat:Nat):Int)
 else if op=3 then (((ys.getD 0 0).toNat &&& (ys.getD 1 0).toNat:Nat):Int)
 else if op=4 then (((ys.getD 0 0).toNat ||| (ys.getD 1 0).toNat:Nat):Int)
 else if op=5 then (((ys.getD 0 0).toNat ^^^ (ys.getD 1 0).toNat:Nat):Int)
 else if op=6 then (ys.getD 0 0+ys.getD 1 0)%2^(ws.getD 0 0).toNat
 else if op=7 then (ys.getD 0 0-ys.getD 1 0)%2^(ws.getD 0 0).toNat
 else if op=8 then (if ys.getD 0 0=ys.getD 1 0 then 1 else 0)
 else if op=9 then (if ys.getD 0 0<ys.getD 1 0 then 1 else 0)
 else if op=10 then ys.getD (2-ys.getD 0 0).toNat 0
 else if op=11 then (((ys.getD 0 0).toNat*2^(ws.getD 1 0).toNat ||| (ys.getD 1 0).toNat:Nat):Int)
 else if op=12 then (ys.getD 0 0 / 2^k.toNat)%2^w.toNat
 else ys.getD 0 0
def DD (ws ys:List Int):Bool:=(List.range ys.length).all fun i=>decide (0≤ys.getD i 0)&&decide (ys.getD i 0≤aE (ws.getD i 0))
def r8 (op:Int) (ws ys N':List Int):Bool:=decide (N'.length=2)&&decide (ys.length=ws.length)&&jc op ws (N'.getD 0 0) (N'.getD 1 0)&&DD ws ys
def fu (op:Int) (ws ys N':List Int):Int:=if r8 op ws ys N' then xE op ws ys (N'.getD 0 0) (N'.getD 1 0)else 0
def Ff (op:Int) (ws ys N':List Int):Int:=if r8 op ws ys N' then 0 else 1
def cB (op:Int) (ws:List Int) (k w:Int):Int:=if jc op ws k w then fh op ws k w else 0
def Fg (op:Int) (ws:List Int) (k w:Int):Int:=if jc op ws k w then 0 else 1
theorem d6 {ws:List Int} (h:ws.all aI=true) {i:Nat} (hi:i<ws.length):1≤ws.getD i 0∧ws.getD i 0≤8:=by
 rw[PH]at h
 have:=h (ws.getD i 0) (by simp[List.getD,Ph hi])
 exact aR.1 this
theorem iG {ws xs:List Int} (h:DD ws xs=true) {i:Nat} (hi:i<xs.length):0≤xs.getD i 0∧xs.getD i 0≤aE (ws.getD i 0):=by
 unfold DD at h
 rw[PH]at h
 have:=h i (P1.2 hi)
 simp only[Pg,P5]at this
 exact this
theorem DE {a b:Int} (h1:0≤a) (h2:a<9223372036854775808) (h3:0≤b) (h4:b<9223372036854775808):IntKind.wrap .i64 ((BitVec.ofInt (IntKind.i64).bits a ^^^ BitVec.ofInt (IntKind.i64).bits b).toNat:Int)=((a.toNat ^^^ b.toNat:Nat):Int):=by
 obtain⟨n,rfl⟩:=Qa h1
 obtain⟨m,rfl⟩:=Qa h3
 exact LR (by omega) (by omega)
theorem DF {a b:Int} (h1:0≤a) (h2:a<9223372036854775808) (h3:0≤b) (h4:b<9223372036854775808):IntKind.wrap .i64 ((BitVec.ofInt (IntKind.i64).bits a &&& BitVec.ofInt (IntKind.i64).bits b).toNat:Int)=((a.toNat &&& b.toNat:Nat):Int):=by
 obtain⟨n,rfl⟩:=Qa h1
 obtain⟨m,rfl⟩:=Qa h3
 exact LP (by omega) (by omega)
theorem Fh {a b:Int} (h1:0≤a) (h2:a<9223372036854775808) (h3:0≤b) (h4:b<9223372036854775808):IntKind.wrap .i64 ((BitVec.ofInt (IntKind.i64).bits a ||| BitVec.ofInt (IntKind.i64).bits b).toNat:Int)=((a.toNat ||| b.toNat:Nat):Int):=by
 obtain⟨n,rfl⟩:=Qa h1
 obtain⟨m,rfl⟩:=Qa h3
 exact LQ (by omega) (by omega)
theorem vu {a:Nat} {n:Nat} (ha:a≤255) (hn:n≤8):a*2^n≤65280:=by
 have:2^n≤2^8:=QH (by omega) hn
 calc a*2^n≤255*2^8:=Rq ha this
  _=65280:=by decide
theorem HI {a n:Int} (ha:0≤a∧a≤255) (hn:0≤n∧n≤8):IntKind.wrap .i64 (a*2^min n.toNat 64)=((a.toNat*2^n.toNat:Nat):Int):=by
 obtain⟨x,rfl⟩:=Qa ha.1
 obtain⟨m,rfl⟩:=Qa hn.1
 have hb:=vu (a:=x) (n:=m) (by omega) (by omega)
 rw[P7,P7,Nat.min_eq_left (by omega)]
 have e:((x:Int)*2^m)=((x*2^m:Nat):Int):=by simp
 rw[e]
 exact iE (by omega)
theorem HJ {a b n:Int} (ha:0≤a∧a≤255) (hn:0≤n∧n≤8) (hb:0≤b∧b≤255):IntKind.wrap .i64 ((BitVec.ofInt (IntKind.i64).bits ((a.toNat*2^n.toNat:Nat):Int) ||| BitVec.ofInt (IntKind.i64).bits b).toNat:Int)=((a.toNat*2^n.toNat ||| b.toNat:Nat):Int):=by
 have h:=vu (a:=a.toNat) (n:=n.toNat) (by omega) (by omega)
 obtain⟨m,rfl⟩:=Qa hb.1
 exact LQ (by omega) (by omega)
theorem BE {a n:Int} (h:0≤n) (h2:n≤62):Int.fdiv a (2^min n.toNat 64)=a / 2^n.toNat:=by
 rw[Nat.min_eq_left (by omega),Int.fdiv_eq_ediv_of_nonneg _ (Int.le_of_lt (Int.pow_pos (by decide)))]
theorem km {op:Int} {ws:List Int} {k w:Int} (h:jc op ws k w=true):(ws.length:Int)=cO op∧ws.all aI=true∧aI (fh op ws k w)=true:=by
 unfold jc at h
 simp only[Pg,P5]at h
 exact⟨h.1.1,h.1.2,h.2⟩
theorem HK {op:Int} (h:op<1∨13<op) (ws:List Int) (k w:Int):jc op ws k w=false:=by
 have:cO op=-1:=by
  unfold cO
  rw[Pj (by omega),Pj (by omega),Pj (by omega),Pj (by omega)]
 unfold jc
 rw[this,Pv (by omega)]
 rfl
theorem BF {ws:List Int} {k w:Int} (h:jc 10 ws k w=true):ws.getD 0 0=1:=by
 have h3:=aR.1 (km h).2.2
 have e:fh 10 ws k w=(if ws.getD 0 0≠1∨ws.getD 1 0≠ws.getD 2 0 then 0 else ws.getD 1 0):=rfl
 rw[e]at h3
 split at h3
 ·omega
 ·rename_i hn
  refine Ql fun hh=>hn (.inl hh)
theorem BG {ws:List Int} {k w:Int} (h:jc 12 ws k w=true):0≤k∧k≤8∧aI w=true:=by
 obtain⟨h1,h2,h3⟩:=km h
 have h3:=aR.1 h3
 have e:fh 12 ws k w=(if aI w=false∨k<0∨ws.getD 0 0-w<k then 0 else w):=rfl
 rw[e]at h3
 have hA:cO 12=1:=by decide
 rw[hA]at h1
 have f0:=d6 h2 (i:=0) (by omega)
 split at h3
 ·omega
 ·rename_i hn
  simp only[not_or,Bool.not_eq_false]at hn
  have:=aR.1 hn.1
  exact⟨by omega,by omega,hn.1⟩
theorem qq {op:Int} {ws xs N':List Int} (h1:N'.length=2) (h2:xs.length=ws.length) (h3:jc op ws (N'.getD 0 0) (N'.getD 1 0)=true) (h4:DD ws xs=true):fu op ws xs N'=xE op ws xs (N'.getD 0 0) (N'.getD 1 0)∧Ff op ws xs N'=0:=by
 have h:r8 op ws xs N'=true:=by
  unfold r8
  rw[Pq h1,Pq h2,h3,h4]
  rfl
 unfold fu Ff
 rw[h]
 exact⟨rfl,rfl⟩
theorem J8 {ws xs:List Int} (h:∀i,i<xs.length→0≤xs.getD i 0∧xs.getD i 0≤aE (ws.getD i 0)):DD ws xs=true:=by
 unfold DD
 rw[PH]
 intro i hi
 have:=h i (P1.1 hi)
 rw[Pq this.1,Pq this.2]
 rfl
theorem bh {p:Nat→Prop} {i:Nat} (h:∀j,j<i→p j) (hi:p i):∀j,j<i+1→p j:=fun j hj=>by
 rcases Nat.lt_or_ge j i with h1 | h1
 ·exact h j h1
 ·have:j=i:=by omega
  rw[this];exact hi
theorem MB {n:Nat} (h:n≤62):aE (n:Int)=((2^n-1:Nat):Int):=by
 rw[cZ (by omega) (by omega),P7]
 have h1:1≤(2:Nat)^n:=Nat.one_le_two_pow
 have e:((2:Int)^n)=((2^n:Nat):Int):=by simp
 rw[e]
 omega
theorem IJ {n z i:Nat} (hz:z<2^n):(2^n-1-z).testBit i=(decide (i<n)&&!z.testBit i):=by
 rw[show 2^n-1-z=2^n-(z+1)from by omega,Nat.testBit_two_pow_sub_succ hz]
def eC (ws:List Int) (n:Nat):Bool:=decide (ws.length=n)&&ws.all aI&&(decide (n<2)||decide (ws.getD (n-1) 0=ws.getD (n-2) 0))
theorem IK {ws:List Int} (h:∀i,i<ws.length→aI (ws.getD i 0)=true):ws.all aI=true:=by
 rw[PH]
 intro x hx
 obtain⟨i,hi,rfl⟩:=QK hx
 have:=h i hi
 simpa[List.getD,Ph hi]using this
theorem bf {ws:List Int} {n:Nat} (h:eC ws n=true):ws.length=n∧ws.all aI=true∧(n<2∨ws.getD (n-1) 0=ws.getD (n-2) 0):=by
 unfold eC at h
 simp only[Pg,PS,P5]at h
 exact⟨h.1.1,h.1.2,h.2⟩
theorem cu {ws:List Int} {n i:Nat} (h:eC ws n=true) (hi:i<n):aI (ws.getD i 0)=true:=by
 obtain⟨h1,h2,_⟩:=bf h
 exact aR.2 (d6 h2 (by omega))
theorem fZ {ws:List Int} (h:eC ws 2=true):ws.getD 1 0=ws.getD 0 0:=by
 rcases(bf h).2.2 with h | h
 ·omega
 ·exact h
theorem f7 {op:Int} {ws:List Int} {k w TF:Int} (h:jc op ws k w=true) (e:fh op ws k w=TF):TF=cB op ws k w∧(0:Int)=Fg op ws k w:=by
 unfold cB Fg;rw[h,e];exact⟨rfl,rfl⟩
theorem ru {op:Int} {ws:List Int} {k w:Int} {n:Nat} (ha:cO op=n) (h1:ws.length=n) (h2:ws.all aI=true) (h3:aI (fh op ws k w)=true):jc op ws k w=true:=by
 unfold jc;rw[ha,Pq (by omega),h2,h3];rfl
theorem lW {op:Int} {ws:List Int} {k w:Int} {n:Nat} (ha:cO op=n) (h:jc op ws k w=true):ws.length=n∧ws.all aI=true∧1≤fh op ws k w∧fh op ws k w≤8:=by
 obtain⟨h1,h2,h3⟩:=km h
 rw[ha]at h1
 have:=aR.1 h3
 exact⟨by omega,h2,this.1,this.2⟩
theorem tW {op:Int} {ws:List Int} {k w:Int} (h:jc op ws k w=true):op=1∨op=2∨op=3∨op=4∨op=5∨op=6∨op=7∨op=8∨op=9∨op=10∨op=11∨op=12∨op=13:=by
 rcases Decidable.em (op<1∨13<op)with hh | hh
 ·rw[HK hh]at h;cases h
 ·omega
theorem tX {ws:List Int} (h:ws.getD 1 0=ws.getD 0 0):b8 ws=ws.getD 0 0:=by
 unfold b8;rw[Pj (by rw[h];simp)]
theorem vX {ws:List Int} (h:1≤b8 ws):ws.getD 1 0=ws.getD 0 0:=by
 unfold b8 at h;split at h
 ·omega
 ·rename_i hn;exact(Decidable.not_not.1 hn).symm
theorem jS {ws:List Int} {n:Nat} (h1:ws.length=n) (h2:ws.all aI=true) (h3:n<2∨ws.getD (n-1) 0=ws.getD (n-2) 0):eC ws n=true:=by
 unfold eC;rw[Pq h1,h2]
 rcases h3 with h3 | h3
 ·rw[Pq h3];rfl
 ·rw[Pq h3];simp
theorem D7 {ws:List Int} {k w:Int}:jc 1 ws k w=true↔(ws.length=0∧aI w=true∧0≤k∧k≤aE w):=by
 have e:fh 1 ws k w=(if aI w=false∨k<0∨aE w<k then 0 else w):=rfl
 constructor
 ·intro h
  obtain⟨h1,h2,h3,h4⟩:=lW (n:=0) (by decide) h
  rw[e]at h3
  split at h3
  ·omega
  ·rename_i hn
   simp only[not_or,Bool.not_eq_false]at hn
   exact⟨h1,hn.1,by omega,by omega⟩
 ·intro ⟨h1,h2,h3,h4⟩
  refine ru (n:=0) (by decide) h1 (by rw[PL h1];rfl) ?_
  rw[e,Pj (by rw[h2];simp;omega)]
  exact h2
theorem GF {ws:List Int} {k w:Int} (h2:aI w=true) (h3:0≤k) (h4:k≤aE w):fh 1 ws k w=w:=by
 show(if aI w=false∨k<0∨aE w<k then 0 else w)=w
 rw[Pj (by rw[h2];simp;omega)]
theorem IL {ws:List Int} {k w:Int}:jc 2 ws k w=true↔eC ws 1=true:=by
 constructor
 ·intro h
  obtain⟨h1,h2,h3,h4⟩:=lW (n:=1) (by decide) h
  exact jS h1 h2 (.inl (by omega))
 ·intro h
  obtain⟨h1,h2,_⟩:=bf h
  exact ru (n:=1) (by decide) h1 h2 (cu h (by omega))
theorem AN {op:Int} (Sz:3≤op∧op≤7) {ws:List Int} {k w:Int}:fh op ws k w=b8 ws:=by
 have:op=3∨op=4∨op=5∨op=6∨op=7:=by omega
 rcases this with rfl | rfl | rfl | rfl | rfl<;>rfl
theorem xu {op:Int} (Sz:3≤op∧op≤9):cO op=(2:Nat):=by
 have:op=3∨op=4∨op=5∨op=6∨op=7∨op=8∨op=9:=by omega
 rcases this with rfl | rfl | rfl | rfl | rfl | rfl | rfl<;>decide
theorem gj {op:Int} (Sz:3≤op∧op≤7) {ws:List Int} {k w:Int}:jc op ws k w=true↔eC ws 2=true:=by
 constructor
 ·intro h
  obtain⟨h1,h2,h3,h4⟩:=lW (n:=2) (xu (by omega)) h
  rw[AN Sz]at h3
  exact jS h1 h2 (.inr (vX h3))
 ·intro h
  obtain⟨h1,h2,h3⟩:=bf h
  refine ru (n:=2) (xu (by omega)) h1 h2 ?_
  rw[AN Sz,tX (by rcases h3 with h3 | h3;omega;exact h3)]
  exact cu h (by omega)
theorem pQ {op:Int} (Sz:3≤op∧op≤7) {ws:List Int} {k w:Int} (h:eC ws 2=true):fh op ws k w=ws.getD 0 0:=by
 obtain⟨h1,h2,h3⟩:=bf h
 rw[AN Sz,tX (by rcases h3 with h3 | h3;omega;exact h3)]
theorem GG {op:Int} (Sz:op=8∨op=9) {ws:List Int} {k w:Int}:fh op ws k w=min (b8 ws) 1:=by
 rcases Sz with rfl | rfl<;>rfl
theorem xv {op:Int} (Sz:op=8∨op=9) {ws:List Int} {k w:Int} (h:eC ws 2=true):fh op ws k w=1:=by
 obtain⟨h1,h2,h3⟩:=bf h
 have:=aR.1 (cu h (i:=0) (by omega))
 rw[GG Sz,tX (by rcases h3 with h3 | h3;omega;exact h3)]
 omega
theorem sn {op:Int} (Sz:op=8∨op=9) {ws:List Int} {k w:Int}:jc op ws k w=true↔eC ws 2=true:=by
 constructor
 ·intro h
  obtain⟨h1,h2,h3,h4⟩:=lW (n:=2) (xu (by omega)) h
  rw[GG Sz]at h3
  exact jS h1 h2 (.inr (vX (by omega)))
 ·intro h
  obtain⟨h1,h2,h3⟩:=bf h
  refine ru (n:=2) (xu (by omega)) h1 h2 ?_
  rw[xv Sz h]
  decide
theorem CG {ws:List Int} {k w:Int} (h:eC ws 3=true) (h0:ws.getD 0 0=1):fh 10 ws k w=ws.getD 1 0:=by
 obtain⟨h1,h2,h3⟩:=bf h
 show(if ws.getD 0 0≠1∨ws.getD 1 0≠ws.getD 2 0 then (0:Int)else ws.getD 1 0)=_
 have h3:ws.getD 2 0=ws.getD 1 0:=by rcases h3 with h3 | h3;omega;exact h3
 rw[Pj (by rw[h0,h3];simp)]
theorem IM {ws:List Int} {k w:Int}:jc 10 ws k w=true↔(eC ws 3=true∧ws.getD 0 0=1):=by
 have e:fh 10 ws k w=(if ws.getD 0 0≠1∨ws.getD 1 0≠ws.getD 2 0 then 0 else ws.getD 1 0):=rfl
 constructor
 ·intro h
  obtain⟨h1,h2,h3,h4⟩:=lW (n:=3) (by decide) h
  rw[e]at h3
  split at h3
  ·omega
  ·rename_i hn
   simp only[not_or,ne_eq,Decidable.not_not]at hn
   exact⟨jS h1 h2 (.inr hn.2.symm),hn.1⟩
 ·intro ⟨h,h0⟩
  obtain⟨h1,h2,h3⟩:=bf h
  refine ru (n:=3) (by decide) h1 h2 ?_
  rw[CG h h0]
  exact cu h (by omega)
theorem IP {ws:List Int} {k w:Int}:jc 11 ws k w=true↔(ws.length=2∧aI (ws.getD 0 0)=true∧aI (ws.getD 1 0)=true∧aI (ws.getD 0 0+ws.getD 1 0)=true):=by
 constructor
 ·intro h
  obtain⟨h1,h2,h3,h4⟩:=lW (n:=2) (by decide) h
  exact⟨h1,aR.2 (d6 h2 (by omega)),aR.2 (d6 h2 (by omega)),aR.2 ⟨h3,h4⟩⟩
 ·intro ⟨h1,h2,h3,h4⟩
  refine ru (n:=2) (by decide) h1 (IK (fun i hi=>?_)) h4
  match i,hi with
  | 0,_=>exact h2
  | 1,_=>exact h3
  | i+2,hi=>omega
theorem vY {ws:List Int} {k w:Int} (h2:aI w=true) (h3:0≤k) (h4:k≤ws.getD 0 0-w):fh 12 ws k w=w:=by
 show(if aI w=false∨k<0∨ws.getD 0 0-w<k then 0 else w)=w
 rw[Pj (by rintro(h | h | h)<;>first | omega | (rw[h2]at h;cases h))]
theorem D8 {ws:List Int} {k w:Int}:jc 12 ws k w=true↔(eC ws 1=true∧aI w=true∧0≤k∧k≤ws.getD 0 0-w):=by
 have e:fh 12 ws k w=(if aI w=false∨k<0∨ws.getD 0 0-w<k then 0 else w):=rfl
 constructor
 ·intro h
  obtain⟨h1,h2,h3,h4⟩:=lW (n:=1) (by decide) h
  rw[e]at h3
  split at h3
  ·omega
  ·rename_i hn
   simp only[not_or,Bool.not_eq_false]at hn
   exact⟨jS h1 h2 (.inl (by omega)),hn.1,by omega,by omega⟩
 ·intro ⟨h,h2,h3,h4⟩
  obtain⟨h1,hf,_⟩:=bf h
  refine ru (n:=1) (by decide) h1 hf ?_
  rw[vY h2 h3 h4]
  exact h2
theorem CH {ws:List Int} {k w:Int} (h:ws.getD 0 0≤w):fh 13 ws k w=w:=by
 show(if w<ws.getD 0 0 then 0 else w)=w
 rw[Pj (by omega)]
theorem IQ {ws:List Int} {k w:Int}:jc 13 ws k w=true↔(eC ws 1=true∧ws.getD 0 0≤w∧aI w=true):=by
 have e:fh 13 ws k w=(if w<ws.getD 0 0 then 0 else w):=rfl
 constructor
 ·intro h
  obtain⟨h1,h2,h3,h4⟩:=lW (n:=1) (by decide) h
  have h5:=aR.2 ⟨h3,h4⟩
  rw[e]at h3 h5
  split at h3
  ·omega
  ·rename_i hn
   rw[Pj hn]at h5
   exact⟨jS h1 h2 (.inl (by omega)),by omega,h5⟩
 ·intro ⟨h,h2,h3⟩
  obtain⟨h1,hf,_⟩:=bf h
  refine ru (n:=1) (by decide) h1 hf ?_
  rw[CH h2]
  exact h3
theorem IR {x w:Int} (hw:0≤w∧w≤8) (hx:0≤x∧x≤aE w):aE w-x=((x.toNat ^^^ (aE w).toNat:Nat):Int):=by
 obtain⟨n,rfl⟩:=Qa hw.1
 obtain⟨y,rfl⟩:=Qa hx.1
 have hp:=Nat.two_pow_pos n
 rw[MB (by omega)]at hx ⊢
 have hy:y<2^n:=by omega
 rw[P7,P7]
 have e:y ^^^ (2^n-1)=2^n-1-y:=by
  refine Nat.eq_of_testBit_eq (fun i=>?_)
  rw[Nat.testBit_xor,Nat.testBit_two_pow_sub_one,IJ hy]
  by_cases hi:i<n
  ·simp[hi]
  ·have:y.testBit i=false:=Nat.testBit_lt_two_pow (Qi hy (QH (by omega) (by omega)))
   simp[hi,this]
 rw[e]
 omega
theorem zb {s w:Int} (hw:0≤w∧w≤8) (hs:0≤s):Int.tmod s (aE w+1)=s%2^w.toNat:=by
 rw[Qh hs,cZ (by omega) (by omega)]
 congr 1
 omega
theorem IT {a b w:Int} (hw:0≤w∧w≤8) (hs:0≤a-b+aE w+1):Int.tmod (a-b+aE w+1) (aE w+1)=(a-b)%2^w.toNat:=by
 rw[zb hw hs,cZ (by omega) (by omega),show a-b+(2^w.toNat-1)+1=a-b+2^w.toNat from by omega,Int.add_emod_right]
end Go.Proofs.Ytnlmlkbaflmgcaa
