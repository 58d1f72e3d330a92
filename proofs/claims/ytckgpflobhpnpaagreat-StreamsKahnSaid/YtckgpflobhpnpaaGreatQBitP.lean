/-
  Operators on bits, plain law: which operations are valid, their widths and values.
-/
import Derived.Test.YtckgpflobhpnpaaGreatQMap
namespace Go.Proofs.YtckgpflobhpnpaaGreat
open Go.RowKit
set_option linter.unusedVariables false
set_option linter.unusedSimpArgs false
theorem dV {a:Nat} (h:a<9223372036854775808):(BitVec.ofInt (IntKind.i64).bits (a:Int)).toNat=a:=by
 show(BitVec.ofInt 64 (a:Int)).toNat=a
 rw[BitVec.toNat_ofInt]
 omega
theorem iM {a:Nat} (h:a<9223372036854775808):IntKind.wrap .i64 (a:Int)=(a:Int):=by
 rw[IntKind.wrap_i64];omega
theorem L4 {a b:Nat} (ha:a<9223372036854775808) (hb:b<9223372036854775808):IntKind.wrap .i64 ((BitVec.ofInt (IntKind.i64).bits (a:Int) &&& BitVec.ofInt (IntKind.i64).bits (b:Int)).toNat:Int)=((a &&& b:Nat):Int):=by
 rw[BitVec.toNat_and, dV ha, dV hb]
 exact iM (Nat.lt_of_le_of_lt Nat.and_le_left ha)
theorem L5 {a b:Nat} (ha:a<9223372036854775808) (hb:b<9223372036854775808):IntKind.wrap .i64 ((BitVec.ofInt (IntKind.i64).bits (a:Int) ||| BitVec.ofInt (IntKind.i64).bits (b:Int)).toNat:Int)=((a ||| b:Nat):Int):=by
 rw[BitVec.toNat_or, dV ha, dV hb]
 exact iM (Nat.or_lt_two_pow (n:=63) ha hb)
theorem L6 {a b:Nat} (ha:a<9223372036854775808) (hb:b<9223372036854775808):IntKind.wrap .i64 ((BitVec.ofInt (IntKind.i64).bits (a:Int) ^^^ BitVec.ofInt (IntKind.i64).bits (b:Int)).toNat:Int)=((a ^^^ b:Nat):Int):=by
 rw[BitVec.toNat_xor, dV ha, dV hb]
 exact iM (Nat.xor_lt_two_pow (n:=63) ha hb)
theorem mm {x:Int} {n:Nat} (hn:n≤62):IntKind.wrap .i64 ((BitVec.ofInt (IntKind.i64).bits x &&& BitVec.ofInt (IntKind.i64).bits ((2:Int)^n-1)).toNat:Int)=x%2^n:=by
 have hp:(2:Nat)^n≤2^62:=Nat.pow_le_pow_right (by omega) hn
 have hp1:1≤(2:Nat)^n:=Nat.one_le_two_pow
 have e:((2:Int)^n-1)=((2^n-1:Nat):Int):=by
  have:((2:Int)^n)=((2^n:Nat):Int):=by simp
  rw[this]
  omega
 rw[e, BitVec.toNat_and, dV (by omega)]
 rw[Nat.and_two_pow_sub_one_eq_mod]
 have h1:(BitVec.ofInt (IntKind.i64).bits x).toNat%2^n<2^n:=Nat.mod_lt _ (by omega)
 rw[iM (by omega)]
 show(((BitVec.ofInt 64 x).toNat%2^n:Nat):Int)=x%2^n
 rw[BitVec.toNat_ofInt]
 have h2:((2^n:Nat):Int) ∣ ((2^64:Nat):Int):=Int.natCast_dvd_natCast.2 (Nat.pow_dvd_pow 2 (by omega))
 have h3:(((x%((2^64:Nat):Int)).toNat:Nat):Int)=x%((2^64:Nat):Int):=Int.toNat_of_nonneg (Int.emod_nonneg _ (by decide))
 have e3:(((2^n:Nat)):Int)=2^n:=by simp
 have e4:∀a b:Nat, ((a%b:Nat):Int)=(a:Int)%(b:Int):=fun a b=>by first | exact Int.natCast_emod a b | exact Int.ofNat_emod a b | simp
 rw[e4, h3, ← e3]
 exact Int.emod_emod_of_dvd x h2
def ax (n:Int):Bool:=decide (1≤n)&&decide (n≤8)
theorem bf {n:Int}:ax n=true↔1≤n∧n≤8:=by simp[ax]
def ap (w:Int):Int:=if w<0∨62<w then 0 else 2^w.toNat-1
theorem dq {w:Int} (h:0≤w) (h2:w≤62):ap w=2^w.toNat-1:=if_neg (by omega)
theorem az {w:Int} (h:0≤w) (h2:w≤8):0≤ap w∧ap w≤255:=by
 have:w=0∨w=1∨w=2∨w=3∨w=4∨w=5∨w=6∨w=7∨w=8:=by omega
 rcases this with rfl | rfl | rfl | rfl | rfl | rfl | rfl | rfl | rfl<;>decide
theorem mr {n:Nat} (h:n≤62):(1:Int)≤2^n∧(2:Int)^n≤4611686018427387904:=by
 have hp:(2:Nat)^n≤2^62:=Nat.pow_le_pow_right (by omega) h
 have hp1:1≤(2:Nat)^n:=Nat.one_le_two_pow
 have e:((2:Int)^n)=((2^n:Nat):Int):=by simp
 rw[e]
 omega
theorem Ib {w:Int} (h0:0≤w) (h:w≤62):IntKind.wrap .i64 (1*2^min w.toNat 64)=2^w.toNat:=by
 have hp:=mr (n:=w.toNat) (by omega)
 rw[Nat.min_eq_left (by omega), Int.one_mul, IntKind.wrap_i64]
 omega
abbrev SH (w:Int):Prop:=0≤w∧IntKind.i64.wrap (1*2^min w.toNat 64)=2^w.toNat
theorem sh {w:Int} (h0:0≤w:=by omega) (h:w≤62:=by omega):SH w:=⟨h0, Ib h0 h⟩
def bH (op:Int):Int:=if op=1 then 0 else if op=2∨op=12∨op=13 then 1 else if op=10 then 3 else if 3≤op∧op≤11 then 2 else -1
def g (l:List Int) (i:Nat):Int:=l.getD i 0
def bV (ws:List Int):Int:=if ws.getD 0 0≠ws.getD 1 0 then 0 else ws.getD 0 0
def bj (op:Int) (ws:List Int) (k w:Int):Int :=
 if op=1 then (if ax w=false∨k<0∨ap w<k then 0 else w)
 else if op=2 then ws.getD 0 0
 else if op=8∨op=9 then min (bV ws) 1
 else if op=10 then (if ws.getD 0 0≠1∨ws.getD 1 0≠ws.getD 2 0 then 0 else ws.getD 1 0)
 else if op=11 then ws.getD 0 0+ws.getD 1 0
 else if op=12 then (if ax w=false∨k<0∨ws.getD 0 0-w<k then 0 else w)
 else if op=13 then (if w<ws.getD 0 0 then 0 else w)
 else bV ws
def oP (op:Int) (ws:List Int) (k w:Int):Bool:=decide ((ws.length:Int)=bH op)&&ws.all ax&&ax (bj op ws k w)
def oQ (op:Int) (ws ys:List Int) (k w:Int):Int :=
 if op=1 then k
 else if op=2 then (((ys.getD 0 0).toNat ^^^ (ap (ws.getD 0 0)).toNat:Nat):Int)
 else if op=3 then (((ys.getD 0 0).toNat &&& (ys.getD 1 0).toNat:Nat):Int)
 else if op=4 then (((ys.getD 0 0).toNat ||| (ys.getD 1 0).toNat:Nat):Int)
 else if op=5 then (((ys.getD 0 0).toNat ^^^ (ys.getD 1 0).toNat:Nat):Int)
 else if op=6 then (ys.getD 0 0+ys.getD 1 0)%2^(ws.getD 0 0).toNat
 else if op=7 then (ys.getD 0 0-ys.getD 1 0)%2^(ws.getD 0 0).toNat
 else if op=8 then (if ys.getD 0 0=ys.getD 1 0 then 1 else 0)
 else if op=9 then (if ys.getD 0 0<ys.getD 1 0 then 1 else 0)
 else if op=10 then ys.getD (2-ys.getD 0 0).toNat 0
 else if op=11 then (((ys.getD 0 0).toNat*2^(ws.getD 1 0).toNat ||| (ys.getD 1 0).toNat:Nat):Int)
 else if op=12 then (ys.getD 0 0 / 2^k.toNat)%2^w.toNat
 else ys.getD 0 0
def D6 (ws ys:List Int):Bool:=(List.range ys.length).all fun i=>decide (0≤ys.getD i 0)&&decide (ys.getD i 0≤ap (ws.getD i 0))
def ee (op:Int) (ws ys nums:List Int):Bool:=decide (nums.length=2)&&decide (ys.length=ws.length)&&oP op ws (nums.getD 0 0) (nums.getD 1 0)&&D6 ws ys
def dA (op:Int) (ws ys nums:List Int):Int:=if ee op ws ys nums then oQ op ws ys (nums.getD 0 0) (nums.getD 1 0)else 0
def gM (op:Int) (ws ys nums:List Int):Int:=if ee op ws ys nums then 0 else 1
def ge (op:Int) (ws:List Int) (k w:Int):Int:=if oP op ws k w then bj op ws k w else 0
def ms (op:Int) (ws:List Int) (k w:Int):Int:=if oP op ws k w then 0 else 1
def r8:Nat→List Int→Int
 | _, []=>-1
 | n, x::l=>if ax x then r8 (n+1) l else (n:Int)
theorem wA:∀(l:List Int) (n:Nat), decide (0≤r8 n l)=!(l.all ax)
 | [], n=>by simp[r8]
 | x::l, n=>by
  unfold r8
  rw[List.all_cons]
  cases h:ax x
  ·simp
  ·simp only[if_true, Bool.true_and]
   exact wA l (n+1)
theorem wB {ws:List Int} {k:Nat} (h:k<ws.length):r8 k (ws.drop k)=if ax (ws.getD k 0)then r8 (k+1) (ws.drop (k+1))else (k:Int):=by
 rw[List.drop_eq_getElem_cons h]
 simp[r8, List.getD, List.getElem?_eq_getElem h]
theorem aB {ws:List Int} (h:ws.all ax=true) {i:Nat} (hi:i<ws.length):1≤ws.getD i 0∧ws.getD i 0≤8:=by
 rw[List.all_eq_true]at h
 have:=h (ws.getD i 0) (by simp[List.getD, List.getElem?_eq_getElem hi])
 exact bf.1 this
theorem a8 {ws xs:List Int} (h:D6 ws xs=true) {i:Nat} (hi:i<xs.length):0≤xs.getD i 0∧xs.getD i 0≤ap (ws.getD i 0):=by
 unfold D6 at h
 rw[List.all_eq_true]at h
 have:=h i (List.mem_range.2 hi)
 simp only[Bool.and_eq_true, decide_eq_true_eq]at this
 exact this
theorem wC {a b:Int} (h1:0≤a) (h2:a<9223372036854775808) (h3:0≤b) (h4:b<9223372036854775808):IntKind.wrap .i64 ((BitVec.ofInt (IntKind.i64).bits a ^^^ BitVec.ofInt (IntKind.i64).bits b).toNat:Int)=((a.toNat ^^^ b.toNat:Nat):Int):=by
 obtain⟨n, rfl⟩:=Int.eq_ofNat_of_zero_le h1
 obtain⟨m, rfl⟩:=Int.eq_ofNat_of_zero_le h3
 exact L6 (by omega) (by omega)
theorem D7 {a b:Int} (h1:0≤a) (h2:a<9223372036854775808) (h3:0≤b) (h4:b<9223372036854775808):IntKind.wrap .i64 ((BitVec.ofInt (IntKind.i64).bits a &&& BitVec.ofInt (IntKind.i64).bits b).toNat:Int)=((a.toNat &&& b.toNat:Nat):Int):=by
 obtain⟨n, rfl⟩:=Int.eq_ofNat_of_zero_le h1
 obtain⟨m, rfl⟩:=Int.eq_ofNat_of_zero_le h3
 exact L4 (by omega) (by omega)
theorem FK {a b:Int} (h1:0≤a) (h2:a<9223372036854775808) (h3:0≤b) (h4:b<9223372036854775808):IntKind.wrap .i64 ((BitVec.ofInt (IntKind.i64).bits a ||| BitVec.ofInt (IntKind.i64).bits b).toNat:Int)=((a.toNat ||| b.toNat:Nat):Int):=by
 obtain⟨n, rfl⟩:=Int.eq_ofNat_of_zero_le h1
 obtain⟨m, rfl⟩:=Int.eq_ofNat_of_zero_le h3
 exact L5 (by omega) (by omega)
theorem wD {a:Nat} {n:Nat} (ha:a≤255) (hn:n≤8):a*2^n≤65280:=by
 have:2^n≤2^8:=Nat.pow_le_pow_right (by omega) hn
 calc a*2^n≤255*2^8:=Nat.mul_le_mul ha this
  _=65280:=by decide
theorem Ic {a n:Int} (ha:0≤a∧a≤255) (hn:0≤n∧n≤8):IntKind.wrap .i64 (a*2^min n.toNat 64)=((a.toNat*2^n.toNat:Nat):Int):=by
 obtain⟨x, rfl⟩:=Int.eq_ofNat_of_zero_le ha.1
 obtain⟨m, rfl⟩:=Int.eq_ofNat_of_zero_le hn.1
 have hb:=wD (a:=x) (n:=m) (by omega) (by omega)
 rw[Int.toNat_natCast, Int.toNat_natCast, Nat.min_eq_left (by omega)]
 have e:((x:Int)*2^m)=((x*2^m:Nat):Int):=by simp
 rw[e]
 exact iM (by omega)
theorem Ie {a b n:Int} (ha:0≤a∧a≤255) (hn:0≤n∧n≤8) (hb:0≤b∧b≤255):IntKind.wrap .i64 ((BitVec.ofInt (IntKind.i64).bits ((a.toNat*2^n.toNat:Nat):Int) ||| BitVec.ofInt (IntKind.i64).bits b).toNat:Int)=((a.toNat*2^n.toNat ||| b.toNat:Nat):Int):=by
 have h:=wD (a:=a.toNat) (n:=n.toNat) (by omega) (by omega)
 obtain⟨m, rfl⟩:=Int.eq_ofNat_of_zero_le hb.1
 exact L5 (by omega) (by omega)
theorem CG {a n:Int} (h:0≤n) (h2:n≤62):Int.fdiv a (2^min n.toNat 64)=a / 2^n.toNat:=by
 rw[Nat.min_eq_left (by omega), Int.fdiv_eq_ediv_of_nonneg _ (Int.le_of_lt (Int.pow_pos (by decide)))]
theorem r9 {op:Int} {ws:List Int} {k w:Int} (h:oP op ws k w=true):(ws.length:Int)=bH op∧ws.all ax=true∧ax (bj op ws k w)=true:=by
 unfold oP at h
 simp only[Bool.and_eq_true, decide_eq_true_eq]at h
 exact⟨h.1.1, h.1.2, h.2⟩
theorem CH {ws:List Int} {k w:Int} (h:oP 10 ws k w=true):ws.getD 0 0=1:=by
 have h3:=bf.1 (r9 h).2.2
 have e:bj 10 ws k w=(if ws.getD 0 0≠1∨ws.getD 1 0≠ws.getD 2 0 then 0 else ws.getD 1 0):=rfl
 rw[e]at h3
 split at h3
 ·omega
 ·rename_i hn
  refine Decidable.byContradiction fun hh=>hn (.inl hh)
theorem CI {ws:List Int} {k w:Int} (h:oP 12 ws k w=true):0≤k∧k≤8∧ax w=true:=by
 obtain⟨h1, h2, h3⟩:=r9 h
 have h3:=bf.1 h3
 have e:bj 12 ws k w=(if ax w=false∨k<0∨ws.getD 0 0-w<k then 0 else w):=rfl
 rw[e]at h3
 have hA:bH 12=1:=by decide
 rw[hA]at h1
 have f0:=aB h2 (i:=0) (by omega)
 split at h3
 ·omega
 ·rename_i hn
  simp only[not_or, Bool.not_eq_false]at hn
  have:=bf.1 hn.1
  exact⟨by omega, by omega, hn.1⟩
theorem aR {op:Int} {ws xs nums:List Int} (h:ee op ws xs nums=false):dA op ws xs nums=0∧gM op ws xs nums=1:=by
 unfold dA gM
 rw[h]
 exact⟨rfl, rfl⟩
theorem eN {op:Int} {ws xs nums:List Int} (h1:nums.length=2) (h2:xs.length=ws.length) (h3:oP op ws (nums.getD 0 0) (nums.getD 1 0)=true) (h4:D6 ws xs=true):dA op ws xs nums=oQ op ws xs (nums.getD 0 0) (nums.getD 1 0)∧gM op ws xs nums=0:=by
 have h:ee op ws xs nums=true:=by
  unfold ee
  rw[decide_eq_true h1, decide_eq_true h2, h3, h4]
  rfl
 unfold dA gM
 rw[h]
 exact⟨rfl, rfl⟩
theorem qE {op:Int} {ws xs nums:List Int} (h:nums.length≠2):ee op ws xs nums=false:=by
 unfold ee
 rw[decide_eq_false h]
 rfl
theorem qF {op:Int} {ws xs nums:List Int} (h:xs.length≠ws.length):ee op ws xs nums=false:=by
 unfold ee
 rw[decide_eq_false h, Bool.and_false]
 rfl
theorem bW {op:Int} {ws xs nums:List Int} (h:oP op ws (nums.getD 0 0) (nums.getD 1 0)=false):ee op ws xs nums=false:=by
 unfold ee
 rw[h, Bool.and_false]
 rfl
theorem jm {op:Int} {ws xs nums:List Int} {i:Nat} (hi:i<xs.length) (h:xs.getD i 0<0∨ap (ws.getD i 0)<xs.getD i 0):ee op ws xs nums=false:=by
 have:D6 ws xs=false:=by
  rw[Bool.eq_false_iff]
  intro hh
  have:=a8 hh hi
  omega
 unfold ee
 rw[this, Bool.and_false]
theorem FL {ws xs:List Int} (h:∀i, i<xs.length→0≤xs.getD i 0∧xs.getD i 0≤ap (ws.getD i 0)):D6 ws xs=true:=by
 unfold D6
 rw[List.all_eq_true]
 intro i hi
 have:=h i (List.mem_range.1 hi)
 rw[decide_eq_true this.1, decide_eq_true this.2]
 rfl
theorem cX {p:Nat→Prop} {i:Nat} (h:∀j, j<i→p j) (hi:p i):∀j, j<i+1→p j:=fun j hj=>by
 rcases Nat.lt_or_ge j i with h1 | h1
 ·exact h j h1
 ·have:j=i:=by omega
  rw[this];exact hi
def zt (op:Int) (ws:List Int):Bool:=decide ((ws.length:Int)=bH op)&&ws.all ax
theorem A3 (op:Int) (ws:List Int) (k w:Int):oP op ws k w=(zt op ws&&ax (bj op ws k w)):=rfl
theorem xO {op:Int} {ws:List Int} (h:zt op ws=true):(ws.length:Int)=bH op∧ws.all ax=true:=by
 unfold zt at h
 simp only[Bool.and_eq_true, decide_eq_true_eq]at h
 exact h
theorem FM {op:Int} {ws:List Int} (h:zt op ws=false):(ws.length:Int)≠bH op∨((ws.length:Int)=bH op∧ws.all ax=false):=by
 unfold zt at h
 by_cases h1:(ws.length:Int)=bH op
 ·rw[decide_eq_true h1, Bool.true_and]at h
  exact .inr ⟨h1, h⟩
 ·exact .inl h1
end Go.Proofs.YtckgpflobhpnpaaGreat
