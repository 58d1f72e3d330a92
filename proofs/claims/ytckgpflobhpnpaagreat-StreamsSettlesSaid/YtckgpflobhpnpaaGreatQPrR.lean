/-
  The result of a valid operation on values of its arguments' widths is a value of its width.
-/
import Derived.Test.YtckgpflobhpnpaaGreatQBitP
namespace Go.Proofs.YtckgpflobhpnpaaGreat
open Go.RowKit
set_option linter.unusedVariables false
set_option linter.unusedSimpArgs false
theorem jS {x w:Int} (h0:0≤w) (h:w≤62):x≤an w↔x<2^w.toNat:=by
 rw[db h0 h];omega
theorem eG {x:Int} {n:Nat} (h0:0≤x) (h:x<2^n):x.toNat<2^n:=by
 have e:((2:Int)^n)=((2^n:Nat):Int):=by simp
 rw[e]at h
 omega
theorem A7 {x n:Nat} (h:x<2^n):(x:Int)<2^n:=by
 have e:((2:Int)^n)=((2^n:Nat):Int):=by simp
 rw[e]
 omega
theorem Gd {a b:Int} (h:a≤b) (h0:0≤a) (hb:b≤62):an a≤an b:=by
 rw[db h0 (by omega), db (by omega) hb]
 have:(2:Nat)^a.toNat≤2^b.toNat:=Nat.pow_le_pow_right (by omega) (by omega)
 have e1:((2:Int)^a.toNat)=((2^a.toNat:Nat):Int):=by simp
 have e2:((2:Int)^b.toNat)=((2^b.toNat:Nat):Int):=by simp
 rw[e1, e2]
 omega
def dV (v w:Int):Prop:=0≤v∧v≤an w
theorem u6 {x w:Int} (h0:0≤w) (h:w≤62):dV (x%2^w.toNat) w:=by
 have hp:=kG (n:=w.toNat) (by omega)
 refine⟨Int.emod_nonneg _ (by omega), ?_⟩
 rw[jS h0 h]
 exact Int.emod_lt_of_pos _ (by omega)
theorem rR {x:Nat} {w:Int} (h0:0≤w) (h:w≤62) (hx:x<2^w.toNat):dV (x:Int) w:=by
 refine⟨by omega, ?_⟩
 rw[jS h0 h]
 exact A7 hx
theorem CM {ws:List Int} (h:cg ws≠0):ws.getD 0 0=ws.getD 1 0∧cg ws=ws.getD 0 0:=by
 unfold cg at h ⊢
 split at h
 ·exact absurd rfl h
 ·rename_i hn
  rw[if_neg hn]
  exact⟨Decidable.not_not.1 hn, rfl⟩
theorem HW {op:Int} {ws xs:List Int} {k w:Int} (h:pO op ws k w=true) (hx:xs.length=ws.length) (hin:F6 ws xs=true):dV (pP op ws xs k w) (bu op ws k w):=by
 obtain⟨h1, hf, h3⟩:=th h
 have h3:=bn.1 h3
 have hop:1≤op∧op≤13:=by
  by_cases hr:op<1∨13<op
  ·have:bQ op=-1:=by unfold bQ;rw[if_neg (by omega), if_neg (by omega), if_neg (by omega), if_neg (by omega)]
   omega
  ·omega
 have f0:0<ws.length→1≤ws.getD 0 0∧ws.getD 0 0≤8:=fun h=>aB hf h
 have f1:1<ws.length→1≤ws.getD 1 0∧ws.getD 1 0≤8:=fun h=>aB hf h
 have f2:2<ws.length→1≤ws.getD 2 0∧ws.getD 2 0≤8:=fun h=>aB hf h
 have a0:0<ws.length→0≤xs.getD 0 0∧xs.getD 0 0≤an (ws.getD 0 0):=fun h=>bg hin (by omega)
 have a1:1<ws.length→0≤xs.getD 1 0∧xs.getD 1 0≤an (ws.getD 1 0):=fun h=>bg hin (by omega)
 have a2:2<ws.length→0≤xs.getD 2 0∧xs.getD 2 0≤an (ws.getD 2 0):=fun h=>bg hin (by omega)
 have two:∀{op:Int}, bQ op=2→(ws.length:Int)=bQ op→bu op ws k w=cg ws→1≤bu op ws k w∧bu op ws k w≤8→ws.getD 0 0=ws.getD 1 0∧bu op ws k w=ws.getD 0 0∧(xs.getD 0 0).toNat<2^(ws.getD 0 0).toNat∧(xs.getD 1 0).toNat<2^(ws.getD 0 0).toNat∧1≤ws.getD 0 0∧ws.getD 0 0≤8:=by
  intro op hA hl hw hb
  have hl2:ws.length=2:=by omega
  obtain⟨e1, e2⟩:=CM (ws:=ws) (by rw[← hw];omega)
  have b0:=f0 (by omega)
  have c0:=a0 (by omega)
  have c1:=a1 (by omega)
  refine⟨e1, by rw[hw, e2], eG c0.1 ((jS (by omega) (by omega)).1 c0.2), ?_, b0⟩
  have:=(jS (w:=ws.getD 1 0) (by omega) (by omega)).1 c1.2
  rw[← e1]at this
  exact eG c1.1 this
 have hcase:op=1∨op=2∨op=3∨op=4∨op=5∨op=6∨op=7∨op=8∨op=9∨op=10∨op=11∨op=12∨op=13:=by omega
 rcases hcase with rfl | rfl | rfl | rfl | rfl | rfl | rfl | rfl | rfl | rfl | rfl | rfl | rfl
 ·show dV k (if ay w=false∨k<0∨an w<k then 0 else w)
  have e:bu 1 ws k w=(if ay w=false∨k<0∨an w<k then 0 else w):=rfl
  rw[e]at h3
  split at h3
  ·omega
  ·rename_i hn
   rw[if_neg hn]
   simp only[not_or, Int.not_lt]at hn
   exact⟨hn.2.1, hn.2.2⟩
 ·have hl:(ws.length:Int)=1:=h1
  have b0:=f0 (by omega)
  have c0:=a0 (by omega)
  show dV (((xs.getD 0 0).toNat ^^^ (an (ws.getD 0 0)).toNat:Nat):Int) (ws.getD 0 0)
  refine rR (by omega) (by omega) (Nat.xor_lt_two_pow (eG c0.1 ((jS (by omega) (by omega)).1 c0.2)) ?_)
  have m0:=az (w:=ws.getD 0 0) (by omega) (by omega)
  exact eG m0.1 ((jS (by omega) (by omega)).1 (Int.le_refl _))
 ·obtain⟨e1, e2, e3, e4, e5, e6⟩:=two (op:=3) (by decide) h1 rfl h3
  rw[e2]
  exact rR (by omega) (by omega) (Nat.lt_of_le_of_lt Nat.and_le_left e3)
 ·obtain⟨e1, e2, e3, e4, e5, e6⟩:=two (op:=4) (by decide) h1 rfl h3
  rw[e2]
  exact rR (by omega) (by omega) (Nat.or_lt_two_pow e3 e4)
 ·obtain⟨e1, e2, e3, e4, e5, e6⟩:=two (op:=5) (by decide) h1 rfl h3
  rw[e2]
  exact rR (by omega) (by omega) (Nat.xor_lt_two_pow e3 e4)
 ·obtain⟨e1, e2, e3, e4, e5, e6⟩:=two (op:=6) (by decide) h1 rfl h3
  rw[e2]
  exact u6 (by omega) (by omega)
 ·obtain⟨e1, e2, e3, e4, e5, e6⟩:=two (op:=7) (by decide) h1 rfl h3
  rw[e2]
  exact u6 (by omega) (by omega)
 ·have e:bu 8 ws k w=min (cg ws) 1:=rfl
  rw[e]at h3 ⊢
  have e1:min (cg ws) 1=1:=by omega
  rw[e1]
  show dV (if xs.getD 0 0=xs.getD 1 0 then 1 else 0) 1
  split<;>exact⟨by decide, by decide⟩
 ·have e:bu 9 ws k w=min (cg ws) 1:=rfl
  rw[e]at h3 ⊢
  have e1:min (cg ws) 1=1:=by omega
  rw[e1]
  show dV (if xs.getD 0 0<xs.getD 1 0 then 1 else 0) 1
  split<;>exact⟨by decide, by decide⟩
 ·have hl:(ws.length:Int)=3:=h1
  have hm1:=EC h
  have c0:=a0 (by omega)
  rw[hm1]at c0
  have c0':xs.getD 0 0≤1:=c0.2
  have c1:=a1 (by omega)
  have c2:=a2 (by omega)
  have e:bu 10 ws k w=(if ws.getD 0 0≠1∨ws.getD 1 0≠ws.getD 2 0 then 0 else ws.getD 1 0):=rfl
  rw[e]at h3 ⊢
  split at h3
  ·omega
  ·rename_i hn
   rw[if_neg hn]
   have hs:ws.getD 1 0=ws.getD 2 0:=Decidable.byContradiction fun hh=>hn (.inr hh)
   show dV (xs.getD (2-xs.getD 0 0).toNat 0) (ws.getD 1 0)
   have hc:xs.getD 0 0=0∨xs.getD 0 0=1:=by omega
   rcases hc with hc | hc
   ·rw[hc, hs];exact c2
   ·rw[hc];exact c1
 ·have hl:(ws.length:Int)=2:=h1
  have b0:=f0 (by omega)
  have b1:=f1 (by omega)
  have c0:=a0 (by omega)
  have c1:=a1 (by omega)
  have e:bu 11 ws k w=ws.getD 0 0+ws.getD 1 0:=rfl
  rw[e]at h3 ⊢
  show dV ((((xs.getD 0 0).toNat*2^(ws.getD 1 0).toNat ||| (xs.getD 1 0).toNat:Nat)):Int) (ws.getD 0 0+ws.getD 1 0)
  have d0:=eG c0.1 ((jS (by omega) (by omega)).1 c0.2)
  have d1:=eG c1.1 ((jS (by omega) (by omega)).1 c1.2)
  have hs:(ws.getD 0 0+ws.getD 1 0).toNat=(ws.getD 0 0).toNat+(ws.getD 1 0).toNat:=by omega
  refine rR (by omega) (by omega) ?_
  rw[hs, Nat.pow_add]
  refine(Nat.pow_add 2 _ _) ▸ Nat.or_lt_two_pow ?_ ?_
  ·rw[Nat.pow_add];exact Nat.mul_lt_mul_of_pos_right d0 (Nat.two_pow_pos _)
  ·exact Nat.lt_of_lt_of_le d1 (Nat.pow_le_pow_right (by omega) (by omega))
 ·have hk:=ED h
  have e:bu 12 ws k w=(if ay w=false∨k<0∨ws.getD 0 0-w<k then 0 else w):=rfl
  rw[e]at h3 ⊢
  split at h3
  ·omega
  ·rename_i hn
   rw[if_neg hn]
   have hw:=bn.1 hk.2.2
   exact u6 (by omega) (by omega)
 ·have hl:(ws.length:Int)=1:=h1
  have b0:=f0 (by omega)
  have c0:=a0 (by omega)
  have e:bu 13 ws k w=(if w<ws.getD 0 0 then 0 else w):=rfl
  rw[e]at h3 ⊢
  split at h3
  ·omega
  ·rename_i hn
   rw[if_neg hn]
   show dV (xs.getD 0 0) w
   exact⟨c0.1, Int.le_trans c0.2 (Gd (by omega) (by omega) (by omega))⟩
theorem Ge {op:Int} {ws xs nums:List Int} {k w:Int} (h:pO op ws k w=true) (hx:xs.length=ws.length) (hin:F6 ws xs=true) (hn:nums.length=2) (h0:nums.getD 0 0=k) (h1:nums.getD 1 0=w) :
  dZ op ws xs nums=pP op ws xs k w∧dV (dZ op ws xs nums) (bu op ws k w):=by
 have e:=(e9 hn hx (by rw[h0, h1];exact h) hin).1
 rw[h0, h1]at e
 exact⟨e, by rw[e];exact HW h hx hin⟩
end Go.Proofs.YtckgpflobhpnpaaGreat
