/- Parts of a proof. -/
import Derived.Test.YtgmpoenfoacofaaQKb
namespace Go.Proofs.Ytgmpoenfoacofaa
open Go.RowKit
set_option linter.unusedVariables false
set_option linter.unusedSimpArgs false
theorem di {a:Nat} (h:a<9223372036854775808):(BitVec.ofInt (IntKind.i64).bits (a:Int)).toNat=a:=by
 show(BitVec.ofInt 64 (a:Int)).toNat=a
 rw[BitVec.toNat_ofInt]
 omega
theorem gk {a:Nat} (h:a<9223372036854775808):IntKind.wrap .i64 (a:Int)=(a:Int):=by
 rw[IntKind.wrap_i64];omega
theorem HV {a b:Nat} (ha:a<9223372036854775808) (hb:b<9223372036854775808):IntKind.wrap .i64 ((BitVec.ofInt (IntKind.i64).bits (a:Int) &&& BitVec.ofInt (IntKind.i64).bits (b:Int)).toNat:Int)=((a &&& b:Nat):Int):=by
 rw[BitVec.toNat_and,di ha,di hb]
 exact gk (Nat.lt_of_le_of_lt Nat.and_le_left ha)
theorem HW {a b:Nat} (ha:a<9223372036854775808) (hb:b<9223372036854775808):IntKind.wrap .i64 ((BitVec.ofInt (IntKind.i64).bits (a:Int) ||| BitVec.ofInt (IntKind.i64).bits (b:Int)).toNat:Int)=((a ||| b:Nat):Int):=by
 rw[BitVec.toNat_or,di ha,di hb]
 exact gk (Nat.or_lt_two_pow (n:=63) ha hb)
theorem HX {a b:Nat} (ha:a<9223372036854775808) (hb:b<9223372036854775808):IntKind.wrap .i64 ((BitVec.ofInt (IntKind.i64).bits (a:Int) ^^^ BitVec.ofInt (IntKind.i64).bits (b:Int)).toNat:Int)=((a ^^^ b:Nat):Int):=by
 rw[BitVec.toNat_xor,di ha,di hb]
 exact gk (Nat.xor_lt_two_pow (n:=63) ha hb)
theorem nn {x:Int} {n:Nat} (hn:n≤62):IntKind.wrap .i64 ((BitVec.ofInt (IntKind.i64).bits x &&& BitVec.ofInt (IntKind.i64).bits ((2:Int)^n-1)).toNat:Int)=x%2^n:=by
 have hp:(2:Nat)^n≤2^62:=L2 (by omega) hn
 have PD:1≤(2:Nat)^n:=Nat.one_le_two_pow
 have e:((2:Int)^n-1)=((2^n-1:Nat):Int):=by
  have:((2:Int)^n)=((2^n:Nat):Int):=by simp
  rw[this]
  omega
 rw[e,BitVec.toNat_and,di (by omega)]
 rw[Nat.and_two_pow_sub_one_eq_mod]
 have h1:(BitVec.ofInt (IntKind.i64).bits x).toNat%2^n<2^n:=Nat.mod_lt _ (by omega)
 rw[gk (by omega)]
 show(((BitVec.ofInt 64 x).toNat%2^n:Nat):Int)=x%2^n
 rw[BitVec.toNat_ofInt]
 have h2:((2^n:Nat):Int) ∣ ((2^64:Nat):Int):=Int.natCast_dvd_natCast.2 (Nat.pow_dvd_pow 2 (by omega))
 have h3:(((x%((2^64:Nat):Int)).toNat:Nat):Int)=x%((2^64:Nat):Int):=Int.toNat_of_nonneg (Mo _ (by decide))
 have e3:(((2^n:Nat)):Int)=2^n:=by simp
 have e4:∀a b:Nat,((a%b:Nat):Int)=(a:Int)%(b:Int):=fun a b=>by first | exact Int.natCast_emod a b | exact Int.ofNat_emod a b | simp
 rw[e4,h3,← e3]
 exact Int.emod_emod_of_dvd x h2
def aD (n:Int):Bool:=decide (1≤n)&&decide (n≤8)
theorem aJ {n:Int}:aD n=true↔1≤n∧n≤8:=by simp[aD]
def aB (w:Int):Int:=if w<0∨62<w then 0 else 2^w.toNat-1
theorem bW {w:Int} (h:0≤w) (h2:w≤62):aB w=2^w.toNat-1:=KK (by omega)
theorem cN {w:Int} (h:0≤w) (h2:w≤8):0≤aB w∧aB w≤255:=by
 have:w=0∨w=1∨w=2∨w=3∨w=4∨w=5∨w=6∨w=7∨w=8:=by omega
 rcases this with rfl | rfl | rfl | rfl | rfl | rfl | rfl | rfl | rfl<;>decide
theorem np {n:Nat} (h:n≤62):(1:Int)≤2^n∧(2:Int)^n≤4611686018427387904:=by
 have hp:(2:Nat)^n≤2^62:=L2 (by omega) h
 have PD:1≤(2:Nat)^n:=Nat.one_le_two_pow
 have e:((2:Int)^n)=((2^n:Nat):Int):=by simp
 rw[e]
 omega
theorem Ff {w:Int} (h0:0≤w) (h:w≤62):IntKind.wrap .i64 (1*2^min w.toNat 64)=2^w.toNat:=by
 have hp:=np (n:=w.toNat) (by omega)
 rw[Nat.min_eq_left (by omega),Int.one_mul,IntKind.wrap_i64]
 omega
abbrev SH (w:Int):Prop:=0≤w∧IntKind.i64.wrap (1*2^min w.toNat 64)=2^w.toNat
theorem sh {w:Int} (h0:0≤w:=by omega) (h:w≤62:=by omega):SH w:=⟨h0,Ff h0 h⟩
def cy (op:Int):Int:=if op=1 then 0 else if op=2∨op=12∨op=13 then 1 else if op=10 then 3 else if 3≤op∧op≤11 then 2 else -1
def g (l:List Int) (i:Nat):Int:=l.getD i 0
def bN (ws:List Int):Int:=if ws.getD 0 0≠ws.getD 1 0 then 0 else ws.getD 0 0
def dW (op:Int) (ws:List Int) (k w:Int):Int :=
 if op=1 then (if aD w=false∨k<0∨aB w<k then 0 else w)
 else if op=2 then ws.getD 0 0
 else if op=8∨op=9 then min (bN ws) 1
 else if op=10 then (if ws.getD 0 0≠1∨ws.getD 1 0≠ws.getD 2 0 then 0 else ws.getD 1 0)
 else if op=11 then ws.getD 0 0+ws.getD 1 0
 else if op=12 then (if aD w=false∨k<0∨ws.getD 0 0-w<k then 0 else w)
 else if op=13 then (if w<ws.getD 0 0 then 0 else w)
 else bN ws
def gQ (op:Int) (ws:List Int) (k w:Int):Bool:=decide ((ws.length:Int)=cy op)&&ws.all aD&&aD (dW op ws k w)
def wc (op:Int) (ws ys:List Int) (k w:Int):Int :=
 if op=1 then k
 else if op=2 then (((ys.getD 0 0).toNat ^^^ (aB (ws.getD 0 0)).toNat:Nat):Int)
 else if op=3 then (((ys.getD 0 0).toNat &&& (ys.getD 1 0).toNat:Nat):Int)
 else if op=4 then (((ys.getD 0 0).toNat ||| (ys.getD 1 0).toNat:Nat):Int)
 else if op=5 then (((ys.getD 0 0).toNat ^^^ (ys.getD 1 0).toNat:Nat):Int)
 else if op=6 then (ys.getD 0 0+ys.getD 1 0)%2^(ws.getD 0 0).toNat
 else if op=7 then (ys.getD 0 0-ys.getD 1 0)%2^(ws.getD 0 0).toNat
 else if op=8 then (if ys.getD 0 0=ys.getD 1 0 then 1 else 0)
 else if op=9 then (if ys.getD 0 0<ys.getD 1 0 then 1 else 0)
 else if op=10 then ys.getD (2-ys.getD 0 0).toNat 0
 else if op=11 then (((ys.getD 0 0).toNat*2^(ws.getD 1 0).toNat ||| (ys.getD 1 0).toNat:Nat):Int)
 else if op=12 then (ys.getD 0 0 / 2^k.toNat)%2^w.toNat
 else ys.getD 0 0
def Bs (ws ys:List Int):Bool:=(List.range ys.length).all fun i=>decide (0≤ys.getD i 0)&&decide (ys.getD i 0≤aB (ws.getD i 0))
def qA (op:Int) (ws ys MU:List Int):Bool:=decide (MU.length=2)&&decide (ys.length=ws.length)&&gQ op ws (MU.getD 0 0) (MU.getD 1 0)&&Bs ws ys
def eb (op:Int) (ws ys MU:List Int):Int:=if qA op ws ys MU then wc op ws ys (MU.getD 0 0) (MU.getD 1 0)else 0
def Dj (op:Int) (ws ys MU:List Int):Int:=if qA op ws ys MU then 0 else 1
def b7 (op:Int) (ws:List Int) (k w:Int):Int:=if gQ op ws k w then dW op ws k w else 0
def Dk (op:Int) (ws:List Int) (k w:Int):Int:=if gQ op ws k w then 0 else 1
theorem dt {ws:List Int} (h:ws.all aD=true) {i:Nat} (hi:i<ws.length):1≤ws.getD i 0∧ws.getD i 0≤8:=by
 rw[K2]at h
 have:=h (ws.getD i 0) (by simp[List.getD,KF hi])
 exact aJ.1 this
theorem gm {ws xs:List Int} (h:Bs ws xs=true) {i:Nat} (hi:i<xs.length):0≤xs.getD i 0∧xs.getD i 0≤aB (ws.getD i 0):=by
 unfold Bs at h
 rw[K2]at h
 have:=h i (LG.2 hi)
 simp only[KD,Lu]at this
 exact this
theorem Bt {a b:Int} (h1:0≤a) (h2:a<9223372036854775808) (h3:0≤b) (h4:b<9223372036854775808):IntKind.wrap .i64 ((BitVec.ofInt (IntKind.i64).bits a ^^^ BitVec.ofInt (IntKind.i64).bits b).toNat:Int)=((a.toNat ^^^ b.toNat:Nat):Int):=by
 obtain⟨n,rfl⟩:=Lq h1
 obtain⟨m,rfl⟩:=Lq h3
 exact HX (by omega) (by omega)
theorem Bu {a b:Int} (h1:0≤a) (h2:a<9223372036854775808) (h3:0≤b) (h4:b<9223372036854775808):IntKind.wrap .i64 ((BitVec.ofInt (IntKind.i64).bits a &&& BitVec.ofInt (IntKind.i64).bits b).toNat:Int)=((a.toNat &&& b.toNat:Nat):Int):=by
 obtain⟨n,rfl⟩:=Lq h1
 obtain⟨m,rfl⟩:=Lq h3
 exact HV (by omega) (by omega)
theorem Dl {a b:Int} (h1:0≤a) (h2:a<9223372036854775808) (h3:0≤b) (h4:b<9223372036854775808):IntKind.wrap .i64 ((BitVec.ofInt (IntKind.i64).bits a ||| BitVec.ofInt (IntKind.i64).bits b).toNat:Int)=((a.toNat ||| b.toNat:Nat):Int):=by
 obtain⟨n,rfl⟩:=Lq h1
 obtain⟨m,rfl⟩:=Lq h3
 exact HW (by omega) (by omega)
theorem ud {a:Nat} {n:Nat} (ha:a≤255) (hn:n≤8):a*2^n≤65280:=by
 have:2^n≤2^8:=L2 (by omega) hn
 calc a*2^n≤255*2^8:=ME ha this
  _=65280:=by decide
theorem Fg {a n:Int} (ha:0≤a∧a≤255) (hn:0≤n∧n≤8):IntKind.wrap .i64 (a*2^min n.toNat 64)=((a.toNat*2^n.toNat:Nat):Int):=by
 obtain⟨x,rfl⟩:=Lq ha.1
 obtain⟨m,rfl⟩:=Lq hn.1
 have hb:=ud (a:=x) (n:=m) (by omega) (by omega)
 rw[Ly,Ly,Nat.min_eq_left (by omega)]
 have e:((x:Int)*2^m)=((x*2^m:Nat):Int):=by simp
 rw[e]
 exact gk (by omega)
theorem Fh {a b n:Int} (ha:0≤a∧a≤255) (hn:0≤n∧n≤8) (hb:0≤b∧b≤255):IntKind.wrap .i64 ((BitVec.ofInt (IntKind.i64).bits ((a.toNat*2^n.toNat:Nat):Int) ||| BitVec.ofInt (IntKind.i64).bits b).toNat:Int)=((a.toNat*2^n.toNat ||| b.toNat:Nat):Int):=by
 have h:=ud (a:=a.toNat) (n:=n.toNat) (by omega) (by omega)
 obtain⟨m,rfl⟩:=Lq hb.1
 exact HW (by omega) (by omega)
theorem zW {a n:Int} (h:0≤n) (h2:n≤62):Int.fdiv a (2^min n.toNat 64)=a / 2^n.toNat:=by
 rw[Nat.min_eq_left (by omega),Int.fdiv_eq_ediv_of_nonneg _ (Int.le_of_lt (Int.pow_pos (by decide)))]
theorem jd {op:Int} {ws:List Int} {k w:Int} (h:gQ op ws k w=true):(ws.length:Int)=cy op∧ws.all aD=true∧aD (dW op ws k w)=true:=by
 unfold gQ at h
 simp only[KD,Lu]at h
 exact⟨h.1.1,h.1.2,h.2⟩
theorem Fj {op:Int} (h:op<1∨13<op) (ws:List Int) (k w:Int):gQ op ws k w=false:=by
 have:cy op=-1:=by
  unfold cy
  rw[KK (by omega),KK (by omega),KK (by omega),KK (by omega)]
 unfold gQ
 rw[this,KS (by omega)]
 rfl
theorem zX {ws:List Int} {k w:Int} (h:gQ 10 ws k w=true):ws.getD 0 0=1:=by
 have h3:=aJ.1 (jd h).2.2
 have e:dW 10 ws k w=(if ws.getD 0 0≠1∨ws.getD 1 0≠ws.getD 2 0 then 0 else ws.getD 1 0):=rfl
 rw[e]at h3
 split at h3
 ·omega
 ·rename_i hn
  refine LH fun hh=>hn (.inl hh)
theorem zY {ws:List Int} {k w:Int} (h:gQ 12 ws k w=true):0≤k∧k≤8∧aD w=true:=by
 obtain⟨h1,h2,h3⟩:=jd h
 have h3:=aJ.1 h3
 have e:dW 12 ws k w=(if aD w=false∨k<0∨ws.getD 0 0-w<k then 0 else w):=rfl
 rw[e]at h3
 have hA:cy 12=1:=by decide
 rw[hA]at h1
 have f0:=dt h2 (i:=0) (by omega)
 split at h3
 ·omega
 ·rename_i hn
  simp only[not_or,Bool.not_eq_false]at hn
  have:=aJ.1 hn.1
  exact⟨by omega,by omega,hn.1⟩
theorem oY {op:Int} {ws xs MU:List Int} (h1:MU.length=2) (h2:xs.length=ws.length) (h3:gQ op ws (MU.getD 0 0) (MU.getD 1 0)=true) (h4:Bs ws xs=true):eb op ws xs MU=wc op ws xs (MU.getD 0 0) (MU.getD 1 0)∧Dj op ws xs MU=0:=by
 have h:qA op ws xs MU=true:=by
  unfold qA
  rw[KO h1,KO h2,h3,h4]
  rfl
 unfold eb Dj
 rw[h]
 exact⟨rfl,rfl⟩
theorem GP {ws xs:List Int} (h:∀i,i<xs.length→0≤xs.getD i 0∧xs.getD i 0≤aB (ws.getD i 0)):Bs ws xs=true:=by
 unfold Bs
 rw[K2]
 intro i hi
 have:=h i (LG.1 hi)
 rw[KO this.1,KO this.2]
 rfl
theorem bA {p:Nat→Prop} {i:Nat} (h:∀j,j<i→p j) (hi:p i):∀j,j<i+1→p j:=fun j hj=>by
 rcases Nat.lt_or_ge j i with h1 | h1
 ·exact h j h1
 ·have:j=i:=by omega
  rw[this];exact hi
theorem Ij {n:Nat} (h:n≤62):aB (n:Int)=((2^n-1:Nat):Int):=by
 rw[bW (by omega) (by omega),Ly]
 have h1:1≤(2:Nat)^n:=Nat.one_le_two_pow
 have e:((2:Int)^n)=((2^n:Nat):Int):=by simp
 rw[e]
 omega
theorem FP {n z i:Nat} (hz:z<2^n):(2^n-1-z).testBit i=(decide (i<n)&&!z.testBit i):=by
 rw[show 2^n-1-z=2^n-(z+1)from by omega,Nat.testBit_two_pow_sub_succ hz]
def dC (ws:List Int) (n:Nat):Bool:=decide (ws.length=n)&&ws.all aD&&(decide (n<2)||decide (ws.getD (n-1) 0=ws.getD (n-2) 0))
theorem FQ {ws:List Int} (h:∀i,i<ws.length→aD (ws.getD i 0)=true):ws.all aD=true:=by
 rw[K2]
 intro x hx
 obtain⟨i,hi,rfl⟩:=MI hx
 have:=h i hi
 simpa[List.getD,KF hi]using this
theorem aW {ws:List Int} {n:Nat} (h:dC ws n=true):ws.length=n∧ws.all aD=true∧(n<2∨ws.getD (n-1) 0=ws.getD (n-2) 0):=by
 unfold dC at h
 simp only[KD,Lf,Lu]at h
 exact⟨h.1.1,h.1.2,h.2⟩
theorem bU {ws:List Int} {n i:Nat} (h:dC ws n=true) (hi:i<n):aD (ws.getD i 0)=true:=by
 obtain⟨h1,h2,_⟩:=aW h
 exact aJ.2 (dt h2 (by omega))
theorem eO {ws:List Int} (h:dC ws 2=true):ws.getD 1 0=ws.getD 0 0:=by
 rcases(aW h).2.2 with h | h
 ·omega
 ·exact h
theorem eP {op:Int} {ws:List Int} {k w OU:Int} (h:gQ op ws k w=true) (e:dW op ws k w=OU):OU=b7 op ws k w∧(0:Int)=Dk op ws k w:=by
 unfold b7 Dk;rw[h,e];exact⟨rfl,rfl⟩
theorem pN {op:Int} {ws:List Int} {k w:Int} {n:Nat} (ha:cy op=n) (h1:ws.length=n) (h2:ws.all aD=true) (h3:aD (dW op ws k w)=true):gQ op ws k w=true:=by
 unfold gQ;rw[ha,KO (by omega),h2,h3];rfl
theorem kw {op:Int} {ws:List Int} {k w:Int} {n:Nat} (ha:cy op=n) (h:gQ op ws k w=true):ws.length=n∧ws.all aD=true∧1≤dW op ws k w∧dW op ws k w≤8:=by
 obtain⟨h1,h2,h3⟩:=jd h
 rw[ha]at h1
 have:=aJ.1 h3
 exact⟨by omega,h2,this.1,this.2⟩
theorem sG {op:Int} {ws:List Int} {k w:Int} (h:gQ op ws k w=true):op=1∨op=2∨op=3∨op=4∨op=5∨op=6∨op=7∨op=8∨op=9∨op=10∨op=11∨op=12∨op=13:=by
 rcases Decidable.em (op<1∨13<op)with hh | hh
 ·rw[Fj hh]at h;cases h
 ·omega
theorem sH {ws:List Int} (h:ws.getD 1 0=ws.getD 0 0):bN ws=ws.getD 0 0:=by
 unfold bN;rw[KK (by rw[h];simp)]
theorem uC {ws:List Int} (h:1≤bN ws):ws.getD 1 0=ws.getD 0 0:=by
 unfold bN at h;split at h
 ·omega
 ·rename_i hn;exact(Decidable.not_not.1 hn).symm
theorem iM {ws:List Int} {n:Nat} (h1:ws.length=n) (h2:ws.all aD=true) (h3:n<2∨ws.getD (n-1) 0=ws.getD (n-2) 0):dC ws n=true:=by
 unfold dC;rw[KO h1,h2]
 rcases h3 with h3 | h3
 ·rw[KO h3];rfl
 ·rw[KO h3];simp
theorem BV {ws:List Int} {k w:Int}:gQ 1 ws k w=true↔(ws.length=0∧aD w=true∧0≤k∧k≤aB w):=by
 have e:dW 1 ws k w=(if aD w=false∨k<0∨aB w<k then 0 else w):=rfl
 constructor
 ·intro h
  obtain⟨h1,h2,h3,h4⟩:=kw (n:=0) (by decide) h
  rw[e]at h3
  split at h3
  ·omega
  ·rename_i hn
   simp only[not_or,Bool.not_eq_false]at hn
   exact⟨h1,hn.1,by omega,by omega⟩
 ·intro ⟨h1,h2,h3,h4⟩
  refine pN (n:=0) (by decide) h1 (by rw[La h1];rfl) ?_
  rw[e,KK (by rw[h2];simp;omega)]
  exact h2
theorem Ec {ws:List Int} {k w:Int} (h2:aD w=true) (h3:0≤k) (h4:k≤aB w):dW 1 ws k w=w:=by
 show(if aD w=false∨k<0∨aB w<k then 0 else w)=w
 rw[KK (by rw[h2];simp;omega)]
theorem FR {ws:List Int} {k w:Int}:gQ 2 ws k w=true↔dC ws 1=true:=by
 constructor
 ·intro h
  obtain⟨h1,h2,h3,h4⟩:=kw (n:=1) (by decide) h
  exact iM h1 h2 (.inl (by omega))
 ·intro h
  obtain⟨h1,h2,_⟩:=aW h
  exact pN (n:=1) (by decide) h1 h2 (bU h (by omega))
theorem yW {op:Int} (N0:3≤op∧op≤7) {ws:List Int} {k w:Int}:dW op ws k w=bN ws:=by
 have:op=3∨op=4∨op=5∨op=6∨op=7:=by omega
 rcases this with rfl | rfl | rfl | rfl | rfl<;>rfl
theorem vQ {op:Int} (N0:3≤op∧op≤9):cy op=(2:Nat):=by
 have:op=3∨op=4∨op=5∨op=6∨op=7∨op=8∨op=9:=by omega
 rcases this with rfl | rfl | rfl | rfl | rfl | rfl | rfl<;>decide
theorem e7 {op:Int} (N0:3≤op∧op≤7) {ws:List Int} {k w:Int}:gQ op ws k w=true↔dC ws 2=true:=by
 constructor
 ·intro h
  obtain⟨h1,h2,h3,h4⟩:=kw (n:=2) (vQ (by omega)) h
  rw[yW N0]at h3
  exact iM h1 h2 (.inr (uC h3))
 ·intro h
  obtain⟨h1,h2,h3⟩:=aW h
  refine pN (n:=2) (vQ (by omega)) h1 h2 ?_
  rw[yW N0,sH (by rcases h3 with h3 | h3;omega;exact h3)]
  exact bU h (by omega)
theorem nZ {op:Int} (N0:3≤op∧op≤7) {ws:List Int} {k w:Int} (h:dC ws 2=true):dW op ws k w=ws.getD 0 0:=by
 obtain⟨h1,h2,h3⟩:=aW h
 rw[yW N0,sH (by rcases h3 with h3 | h3;omega;exact h3)]
theorem Ed {op:Int} (N0:op=8∨op=9) {ws:List Int} {k w:Int}:dW op ws k w=min (bN ws) 1:=by
 rcases N0 with rfl | rfl<;>rfl
theorem vR {op:Int} (N0:op=8∨op=9) {ws:List Int} {k w:Int} (h:dC ws 2=true):dW op ws k w=1:=by
 obtain⟨h1,h2,h3⟩:=aW h
 have:=aJ.1 (bU h (i:=0) (by omega))
 rw[Ed N0,sH (by rcases h3 with h3 | h3;omega;exact h3)]
 omega
theorem qN {op:Int} (N0:op=8∨op=9) {ws:List Int} {k w:Int}:gQ op ws k w=true↔dC ws 2=true:=by
 constructor
 ·intro h
  obtain⟨h1,h2,h3,h4⟩:=kw (n:=2) (vQ (by omega)) h
  rw[Ed N0]at h3
  exact iM h1 h2 (.inr (uC (by omega)))
 ·intro h
  obtain⟨h1,h2,h3⟩:=aW h
  refine pN (n:=2) (vQ (by omega)) h1 h2 ?_
  rw[vR N0 h]
  decide
theorem AC {ws:List Int} {k w:Int} (h:dC ws 3=true) (h0:ws.getD 0 0=1):dW 10 ws k w=ws.getD 1 0:=by
 obtain⟨h1,h2,h3⟩:=aW h
 show(if ws.getD 0 0≠1∨ws.getD 1 0≠ws.getD 2 0 then (0:Int)else ws.getD 1 0)=_
 have h3:ws.getD 2 0=ws.getD 1 0:=by rcases h3 with h3 | h3;omega;exact h3
 rw[KK (by rw[h0,h3];simp)]
theorem FS {ws:List Int} {k w:Int}:gQ 10 ws k w=true↔(dC ws 3=true∧ws.getD 0 0=1):=by
 have e:dW 10 ws k w=(if ws.getD 0 0≠1∨ws.getD 1 0≠ws.getD 2 0 then 0 else ws.getD 1 0):=rfl
 constructor
 ·intro h
  obtain⟨h1,h2,h3,h4⟩:=kw (n:=3) (by decide) h
  rw[e]at h3
  split at h3
  ·omega
  ·rename_i hn
   simp only[not_or,ne_eq,Decidable.not_not]at hn
   exact⟨iM h1 h2 (.inr hn.2.symm),hn.1⟩
 ·intro ⟨h,h0⟩
  obtain⟨h1,h2,h3⟩:=aW h
  refine pN (n:=3) (by decide) h1 h2 ?_
  rw[AC h h0]
  exact bU h (by omega)
theorem FT {ws:List Int} {k w:Int}:gQ 11 ws k w=true↔(ws.length=2∧aD (ws.getD 0 0)=true∧aD (ws.getD 1 0)=true∧aD (ws.getD 0 0+ws.getD 1 0)=true):=by
 constructor
 ·intro h
  obtain⟨h1,h2,h3,h4⟩:=kw (n:=2) (by decide) h
  exact⟨h1,aJ.2 (dt h2 (by omega)),aJ.2 (dt h2 (by omega)),aJ.2 ⟨h3,h4⟩⟩
 ·intro ⟨h1,h2,h3,h4⟩
  refine pN (n:=2) (by decide) h1 (FQ (fun i hi=>?_)) h4
  match i,hi with
  | 0,_=>exact h2
  | 1,_=>exact h3
  | i+2,hi=>omega
theorem uD {ws:List Int} {k w:Int} (h2:aD w=true) (h3:0≤k) (h4:k≤ws.getD 0 0-w):dW 12 ws k w=w:=by
 show(if aD w=false∨k<0∨ws.getD 0 0-w<k then 0 else w)=w
 rw[KK (by rintro(h | h | h)<;>first | omega | (rw[h2]at h;cases h))]
theorem BW {ws:List Int} {k w:Int}:gQ 12 ws k w=true↔(dC ws 1=true∧aD w=true∧0≤k∧k≤ws.getD 0 0-w):=by
 have e:dW 12 ws k w=(if aD w=false∨k<0∨ws.getD 0 0-w<k then 0 else w):=rfl
 constructor
 ·intro h
  obtain⟨h1,h2,h3,h4⟩:=kw (n:=1) (by decide) h
  rw[e]at h3
  split at h3
  ·omega
  ·rename_i hn
   simp only[not_or,Bool.not_eq_false]at hn
   exact⟨iM h1 h2 (.inl (by omega)),hn.1,by omega,by omega⟩
 ·intro ⟨h,h2,h3,h4⟩
  obtain⟨h1,hf,_⟩:=aW h
  refine pN (n:=1) (by decide) h1 hf ?_
  rw[uD h2 h3 h4]
  exact h2
theorem AD {ws:List Int} {k w:Int} (h:ws.getD 0 0≤w):dW 13 ws k w=w:=by
 show(if w<ws.getD 0 0 then 0 else w)=w
 rw[KK (by omega)]
theorem FU {ws:List Int} {k w:Int}:gQ 13 ws k w=true↔(dC ws 1=true∧ws.getD 0 0≤w∧aD w=true):=by
 have e:dW 13 ws k w=(if w<ws.getD 0 0 then 0 else w):=rfl
 constructor
 ·intro h
  obtain⟨h1,h2,h3,h4⟩:=kw (n:=1) (by decide) h
  have h5:=aJ.2 ⟨h3,h4⟩
  rw[e]at h3 h5
  split at h3
  ·omega
  ·rename_i hn
   rw[KK hn]at h5
   exact⟨iM h1 h2 (.inl (by omega)),by omega,h5⟩
 ·intro ⟨h,h2,h3⟩
  obtain⟨h1,hf,_⟩:=aW h
  refine pN (n:=1) (by decide) h1 hf ?_
  rw[AD h2]
  exact h3
theorem FV {x w:Int} (hw:0≤w∧w≤8) (hx:0≤x∧x≤aB w):aB w-x=((x.toNat ^^^ (aB w).toNat:Nat):Int):=by
 obtain⟨n,rfl⟩:=Lq hw.1
 obtain⟨y,rfl⟩:=Lq hx.1
 have hp:=Nat.two_pow_pos n
 rw[Ij (by omega)]at hx ⊢
 have hy:y<2^n:=by omega
 rw[Ly,Ly]
 have e:y ^^^ (2^n-1)=2^n-1-y:=by
  refine Nat.eq_of_testBit_eq (fun i=>?_)
  rw[Nat.testBit_xor,Nat.testBit_two_pow_sub_one,FP hy]
  by_cases hi:i<n
  ·simp[hi]
  ·have:y.testBit i=false:=Nat.testBit_lt_two_pow (LA hy (L2 (by omega) (by omega)))
   simp[hi,this]
 rw[e]
 omega
theorem xm {s w:Int} (hw:0≤w∧w≤8) (hs:0≤s):Int.tmod s (aB w+1)=s%2^w.toNat:=by
 rw[L4 hs,bW (by omega) (by omega)]
 congr 1
 omega
theorem FW {a b w:Int} (hw:0≤w∧w≤8) (hs:0≤a-b+aB w+1):Int.tmod (a-b+aB w+1) (aB w+1)=(a-b)%2^w.toNat:=by
 rw[xm hw hs,bW (by omega) (by omega),show a-b+(2^w.toNat-1)+1=a-b+2^w.toNat from by omega,Int.add_emod_right]
end Go.Proofs.Ytgmpoenfoacofaa
