/-
  The result of a valid operation on values of its arguments' widths is a value of its width.
-/
import Derived.Test.YtckgpflobhpnpaaGreatQBitP
namespace Go.Proofs.YtckgpflobhpnpaaGreat
open Go.RowKit
set_option linter.unusedVariables false
set_option linter.unusedSimpArgs false
theorem jr {x w:Int} (h0:0≤w) (h:w≤62):x≤ap w↔x<2^w.toNat:=by
 rw[dq h0 h];omega
theorem ef {x:Int} {n:Nat} (h0:0≤x) (h:x<2^n):x.toNat<2^n:=by
 have e:((2:Int)^n)=((2^n:Nat):Int):=by simp
 rw[e]at h
 omega
theorem zu {x n:Nat} (h:x<2^n):(x:Int)<2^n:=by
 have e:((2:Int)^n)=((2^n:Nat):Int):=by simp
 rw[e]
 omega
theorem Ed {a b:Int} (h:a≤b) (h0:0≤a) (hb:b≤62):ap a≤ap b:=by
 rw[dq h0 (by omega), dq (by omega) hb]
 have:(2:Nat)^a.toNat≤2^b.toNat:=Nat.pow_le_pow_right (by omega) (by omega)
 have e1:((2:Int)^a.toNat)=((2^a.toNat:Nat):Int):=by simp
 have e2:((2:Int)^b.toNat)=((2^b.toNat:Nat):Int):=by simp
 rw[e1, e2]
 omega
def dt (v w:Int):Prop:=0≤v∧v≤ap w
theorem tI {x w:Int} (h0:0≤w) (h:w≤62):dt (x%2^w.toNat) w:=by
 have hp:=mr (n:=w.toNat) (by omega)
 refine⟨Int.emod_nonneg _ (by omega), ?_⟩
 rw[jr h0 h]
 exact Int.emod_lt_of_pos _ (by omega)
theorem qP {x:Nat} {w:Int} (h0:0≤w) (h:w≤62) (hx:x<2^w.toNat):dt (x:Int) w:=by
 refine⟨by omega, ?_⟩
 rw[jr h0 h]
 exact zu hx
theorem A7 {ws:List Int} (h:bV ws≠0):ws.getD 0 0=ws.getD 1 0∧bV ws=ws.getD 0 0:=by
 unfold bV at h ⊢
 split at h
 ·exact absurd rfl h
 ·rename_i hn
  rw[if_neg hn]
  exact⟨Decidable.not_not.1 hn, rfl⟩
theorem FX {op:Int} {ws xs:List Int} {k w:Int} (h:oP op ws k w=true) (hx:xs.length=ws.length) (hin:D6 ws xs=true):dt (oQ op ws xs k w) (bj op ws k w):=by
 obtain⟨h1, hf, h3⟩:=r9 h
 have h3:=bf.1 h3
 have hop:1≤op∧op≤13:=by
  by_cases hr:op<1∨13<op
  ·have:bH op=-1:=by unfold bH;rw[if_neg (by omega), if_neg (by omega), if_neg (by omega), if_neg (by omega)]
   omega
  ·omega
 have f0:0<ws.length→1≤ws.getD 0 0∧ws.getD 0 0≤8:=fun h=>aB hf h
 have f1:1<ws.length→1≤ws.getD 1 0∧ws.getD 1 0≤8:=fun h=>aB hf h
 have f2:2<ws.length→1≤ws.getD 2 0∧ws.getD 2 0≤8:=fun h=>aB hf h
 have a0:0<ws.length→0≤xs.getD 0 0∧xs.getD 0 0≤ap (ws.getD 0 0):=fun h=>a8 hin (by omega)
 have a1:1<ws.length→0≤xs.getD 1 0∧xs.getD 1 0≤ap (ws.getD 1 0):=fun h=>a8 hin (by omega)
 have a2:2<ws.length→0≤xs.getD 2 0∧xs.getD 2 0≤ap (ws.getD 2 0):=fun h=>a8 hin (by omega)
 have two:∀{op:Int}, bH op=2→(ws.length:Int)=bH op→bj op ws k w=bV ws→1≤bj op ws k w∧bj op ws k w≤8→ws.getD 0 0=ws.getD 1 0∧bj op ws k w=ws.getD 0 0∧(xs.getD 0 0).toNat<2^(ws.getD 0 0).toNat∧(xs.getD 1 0).toNat<2^(ws.getD 0 0).toNat∧1≤ws.getD 0 0∧ws.getD 0 0≤8:=by
  intro op hA hl hw hb
  have hl2:ws.length=2:=by omega
  obtain⟨e1, e2⟩:=A7 (ws:=ws) (by rw[← hw];omega)
  have b0:=f0 (by omega)
  have c0:=a0 (by omega)
  have c1:=a1 (by omega)
  refine⟨e1, by rw[hw, e2], ef c0.1 ((jr (by omega) (by omega)).1 c0.2), ?_, b0⟩
  have:=(jr (w:=ws.getD 1 0) (by omega) (by omega)).1 c1.2
  rw[← e1]at this
  exact ef c1.1 this
 have hcase:op=1∨op=2∨op=3∨op=4∨op=5∨op=6∨op=7∨op=8∨op=9∨op=10∨op=11∨op=12∨op=13:=by omega
 rcases hcase with rfl | rfl | rfl | rfl | rfl | rfl | rfl | rfl | rfl | rfl | rfl | rfl | rfl
 ·show dt k (if ax w=false∨k<0∨ap w<k then 0 else w)
  have e:bj 1 ws k w=(if ax w=false∨k<0∨ap w<k then 0 else w):=rfl
  rw[e]at h3
  split at h3
  ·omega
  ·rename_i hn
   rw[if_neg hn]
   simp only[not_or, Int.not_lt]at hn
   exact⟨hn.2.1, hn.2.2⟩
 ·have hl:(ws.length:Int)=1:=h1
  have b0:=f0 (by omega)
  have c0:=a0 (by omega)
  show dt (((xs.getD 0 0).toNat ^^^ (ap (ws.getD 0 0)).toNat:Nat):Int) (ws.getD 0 0)
  refine qP (by omega) (by omega) (Nat.xor_lt_two_pow (ef c0.1 ((jr (by omega) (by omega)).1 c0.2)) ?_)
  have m0:=az (w:=ws.getD 0 0) (by omega) (by omega)
  exact ef m0.1 ((jr (by omega) (by omega)).1 (Int.le_refl _))
 ·obtain⟨e1, e2, e3, e4, e5, e6⟩:=two (op:=3) (by decide) h1 rfl h3
  rw[e2]
  exact qP (by omega) (by omega) (Nat.lt_of_le_of_lt Nat.and_le_left e3)
 ·obtain⟨e1, e2, e3, e4, e5, e6⟩:=two (op:=4) (by decide) h1 rfl h3
  rw[e2]
  exact qP (by omega) (by omega) (Nat.or_lt_two_pow e3 e4)
 ·obtain⟨e1, e2, e3, e4, e5, e6⟩:=two (op:=5) (by decide) h1 rfl h3
  rw[e2]
  exact qP (by omega) (by omega) (Nat.xor_lt_two_pow e3 e4)
 ·obtain⟨e1, e2, e3, e4, e5, e6⟩:=two (op:=6) (by decide) h1 rfl h3
  rw[e2]
  exact tI (by omega) (by omega)
 ·obtain⟨e1, e2, e3, e4, e5, e6⟩:=two (op:=7) (by decide) h1 rfl h3
  rw[e2]
  exact tI (by omega) (by omega)
 ·have e:bj 8 ws k w=min (bV ws) 1:=rfl
  rw[e]at h3 ⊢
  have e1:min (bV ws) 1=1:=by omega
  rw[e1]
  show dt (if xs.getD 0 0=xs.getD 1 0 then 1 else 0) 1
  split<;>exact⟨by decide, by decide⟩
 ·have e:bj 9 ws k w=min (bV ws) 1:=rfl
  rw[e]at h3 ⊢
  have e1:min (bV ws) 1=1:=by omega
  rw[e1]
  show dt (if xs.getD 0 0<xs.getD 1 0 then 1 else 0) 1
  split<;>exact⟨by decide, by decide⟩
 ·have hl:(ws.length:Int)=3:=h1
  have hm1:=CH h
  have c0:=a0 (by omega)
  rw[hm1]at c0
  have c0':xs.getD 0 0≤1:=c0.2
  have c1:=a1 (by omega)
  have c2:=a2 (by omega)
  have e:bj 10 ws k w=(if ws.getD 0 0≠1∨ws.getD 1 0≠ws.getD 2 0 then 0 else ws.getD 1 0):=rfl
  rw[e]at h3 ⊢
  split at h3
  ·omega
  ·rename_i hn
   rw[if_neg hn]
   have hs:ws.getD 1 0=ws.getD 2 0:=Decidable.byContradiction fun hh=>hn (.inr hh)
   show dt (xs.getD (2-xs.getD 0 0).toNat 0) (ws.getD 1 0)
   have hc:xs.getD 0 0=0∨xs.getD 0 0=1:=by omega
   rcases hc with hc | hc
   ·rw[hc, hs];exact c2
   ·rw[hc];exact c1
 ·have hl:(ws.length:Int)=2:=h1
  have b0:=f0 (by omega)
  have b1:=f1 (by omega)
  have c0:=a0 (by omega)
  have c1:=a1 (by omega)
  have e:bj 11 ws k w=ws.getD 0 0+ws.getD 1 0:=rfl
  rw[e]at h3 ⊢
  show dt ((((xs.getD 0 0).toNat*2^(ws.getD 1 0).toNat ||| (xs.getD 1 0).toNat:Nat)):Int) (ws.getD 0 0+ws.getD 1 0)
  have d0:=ef c0.1 ((jr (by omega) (by omega)).1 c0.2)
  have d1:=ef c1.1 ((jr (by omega) (by omega)).1 c1.2)
  have hs:(ws.getD 0 0+ws.getD 1 0).toNat=(ws.getD 0 0).toNat+(ws.getD 1 0).toNat:=by omega
  refine qP (by omega) (by omega) ?_
  rw[hs, Nat.pow_add]
  refine(Nat.pow_add 2 _ _) ▸ Nat.or_lt_two_pow ?_ ?_
  ·rw[Nat.pow_add];exact Nat.mul_lt_mul_of_pos_right d0 (Nat.two_pow_pos _)
  ·exact Nat.lt_of_lt_of_le d1 (Nat.pow_le_pow_right (by omega) (by omega))
 ·have hk:=CI h
  have e:bj 12 ws k w=(if ax w=false∨k<0∨ws.getD 0 0-w<k then 0 else w):=rfl
  rw[e]at h3 ⊢
  split at h3
  ·omega
  ·rename_i hn
   rw[if_neg hn]
   have hw:=bf.1 hk.2.2
   exact tI (by omega) (by omega)
 ·have hl:(ws.length:Int)=1:=h1
  have b0:=f0 (by omega)
  have c0:=a0 (by omega)
  have e:bj 13 ws k w=(if w<ws.getD 0 0 then 0 else w):=rfl
  rw[e]at h3 ⊢
  split at h3
  ·omega
  ·rename_i hn
   rw[if_neg hn]
   show dt (xs.getD 0 0) w
   exact⟨c0.1, Int.le_trans c0.2 (Ed (by omega) (by omega) (by omega))⟩
theorem Ee {op:Int} {ws xs nums:List Int} {k w:Int} (h:oP op ws k w=true) (hx:xs.length=ws.length) (hin:D6 ws xs=true) (hn:nums.length=2) (h0:nums.getD 0 0=k) (h1:nums.getD 1 0=w) :
  dA op ws xs nums=oQ op ws xs k w∧dt (dA op ws xs nums) (bj op ws k w):=by
 have e:=(eN hn hx (by rw[h0, h1];exact h) hin).1
 rw[h0, h1]at e
 exact⟨e, by rw[e];exact FX h hx hin⟩
end Go.Proofs.YtckgpflobhpnpaaGreat
