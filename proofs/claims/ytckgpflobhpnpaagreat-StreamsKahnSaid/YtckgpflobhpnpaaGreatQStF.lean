/-
  What a process does in a state, with room everywhere; traces, tick by tick.
-/
import Derived.Test.YtckgpflobhpnpaaGreatQStE
namespace Go.Proofs.YtckgpflobhpnpaaGreat
open Go.RowKit
set_option linter.unusedVariables false
set_option linter.unusedSimpArgs false
def JD (c:Ci):Prop:=∀p, p<c.procs.length→1≤(bc c p).puts.length∧(bc c p).puts.length≤2
def bP (c:Ci) (s:Ns) (k:Nat):Fi:=ay (bc c k) (Bf s k) (gf c s k) (ci c k)
section
variable {c:Ci} {s:Ns} {u v:Uf} {p n k i:Nat} {inp:List (List Int)} {cls:List ByteArray} {w:Nat→Bool}
theorem IR (hc:a6 c) (hp:p<c.procs.length) (hcan:gg c s p=true):bP c s p=af c s p:=by
 rw[sk]at hcan
 unfold bP af
 refine nU (hc.pr p hp) hcan (fun j hj hh=>rfl) (fun j hj _=>?_)
 unfold ci
 rw[d9 _ _ (by rw[List.length_replicate];exact hj), List.getElem_replicate]
theorem rn (hc:a6 c) (n:Nat):∀{l:List Nat} {u:Uf}, kd c u l→((cm c u l).l n).length≤(u.l n).length+l.length
 | [], u, _=>Nat.le_refl _
 | p::r, u, h=>by
  refine Nat.le_trans (rn hc n (l:=r) h.2.2) ?_
  have:=zS (f:=fU c u p) (n:=n) hc h.1
  show(u.l n++ie c p (fU c u p) n).length+r.length≤_+(r.length+1)
  rw[List.length_append];omega
theorem Dp (c:Ci) (s:Ns) (w:Nat→Bool) (P:Nat):(jJ c s w P).length≤P:=by
 unfold jJ
 exact Nat.le_trans (List.length_filter_le _ _) (by simp)
theorem Dq (c:Ci):∀(l:List (Nat→Bool)) (s:Ns), (gU c s l).length≤l.length*c.procs.length
 | [], s=>by simp[gU]
 | w::r, s=>by
  have h1:=Dp c s w c.procs.length
  have h2:=Dq c r (bD c s w)
  rw[gU, List.length_append, List.length_cons, Nat.succ_mul];omega
theorem zW:∀{l m:List (Nat→Bool)} {s:Ns}, vM c s (l++m)=vM c (vM c s l) m
 | [], _, _=>rfl
 | w::r, m, s=>by rw[List.cons_append, vM, vM, zW (l:=r)]
def HC (c:Ci) (inp:List (List Int)) (cls:List ByteArray) (i:Nat):Ns:=vM c (HB c inp) ((cls.map (bh c)).take i)
def G5 (c:Ci) (inp:List (List Int)) (cls:List ByteArray) (i:Nat):Uf:=cm c (u0 c inp) (gU c (HB c inp) ((cls.map (bh c)).take i))
theorem Dr (hi:i<cls.length):(cls.map (bh c)).take (i+1)=(cls.map (bh c)).take i++[bh c (cls.getD i .empty)]:=by
 rw[List.take_add_one, List.getElem?_map, List.getElem?_eq_getElem hi, List.getD_eq_getElem?_getD, List.getElem?_eq_getElem hi];rfl
theorem G6 (hi:i<cls.length):HC c inp cls (i+1)=bD c (HC c inp cls i) (bh c (cls.getD i .empty)):=by
 unfold HC;rw[Dr hi, zW];rfl
theorem G7 (hi:i<cls.length):G5 c inp cls (i+1)=cm c (G5 c inp cls i) (jJ c (HC c inp cls i) (bh c (cls.getD i .empty)) c.procs.length):=by
 unfold G5;rw[Dr hi, De, ke]
 show cm c _ (gU c (HC c inp cls i) [_])=_
 rw[gU, gU, List.append_nil]
theorem tV (hi:cls.length≤i):G5 c inp cls i=BA c inp cls:=by
 unfold G5 BA;rw[List.take_of_length_le (by simpa using hi)]
theorem G8 (hc:a6 c) (h:oX c inp):kd c (u0 c inp) (gU c (HB c inp) ((cls.map (bh c)).take i))∧NU c (HC c inp cls i) (G5 c inp cls i)∧j6 c (HC c inp cls i)∧∀q, (G5 c inp cls i).cnt q≤i:=by
 obtain⟨a, b, d, e⟩:=GH hc (l:=(cls.map (bh c)).take i) (Jz hc h) (Mn c (inp:=inp))
 refine⟨a, b, d, fun q=>?_⟩
 unfold G5
 rw[gG]
 have:=e q
 rw[List.length_take]at this
 show 0+_≤_
 omega
theorem BG (hc:a6 c) (h:oX c inp) (hi:i≤100) (n:Nat):((G5 c inp cls i).l n).length≤11000:=by
 have h1:=rn hc n (G8 (cls:=cls) (i:=i) hc h).1
 have h2:=Dq c ((cls.map (bh c)).take i) (HB c inp)
 have h3:=h.sm n
 have h4:=hc.nl
 have h5:((cls.map (bh c)).take i).length≤100:=by rw[List.length_take];omega
 have h6:((cls.map (bh c)).take i).length*c.procs.length≤100*100:=Nat.mul_le_mul h5 h4
 have h7:((u0 c inp).l n).length≤1000:=h3
 unfold G5
 omega
theorem Mt (hc:a6 c) (h:oX c inp) (hi:i≤100):M3 (HC c inp cls i) 11000:=fun n=>by
 obtain⟨_, b, d, _⟩:=G8 (cls:=cls) (i:=i) hc h
 by_cases hn:n<c.chans.length
 ·rw[b.wd n hn, List.length_drop];have:=BG (cls:=cls) hc h hi n;omega
 ·show((HC c inp cls i).chans.getD n []).length≤_
  rw[List.getD_eq_getElem?_getD, List.getElem?_eq_none (by have:=d.cl;omega)];simp
def ER (c:Ci) (s:Ns) (u:Uf) (w:Nat→Bool) (k:Nat):Uf:=cm c u (jJ c s w k)
theorem zX (k:Nat):jJ c s w (k+1)=jJ c s w k++(if aA c s w k=true then [k]else []):=by
 unfold jJ
 rw[List.range_succ, List.filter_append]
 split
 ·rename_i hf;rw[List.filter_cons_of_pos hf, List.filter_nil]
 ·rename_i hf;rw[List.filter_cons_of_neg hf, List.filter_nil]
theorem IT (h:aA c s w k=true):ER c s u w (k+1)=aj c (ER c s u w k) k:=by
 unfold ER;rw[zX, if_pos h, ke];rfl
theorem K3 (h:aA c s w k=false):ER c s u w (k+1)=ER c s u w k:=by
 unfold ER;rw[zX, if_neg (by rw[h];simp), List.append_nil]
theorem K4 (hc:a6 c) (hs:j6 c s) (hn:NU c s u) (hk:k<c.procs.length) (h:aA c s w k=true):fU c (ER c s u w k) k=bP c s k:=by
 rw[IR hc hk (iy h).2]
 exact(tO hc hs hn w _ (Nat.le_refl _)).2.2 k hk h
theorem IU (hc:a6 c) (hs:j6 c s) (hn:NU c s u) (hk:k≤c.procs.length) (n:Nat):((ER c s u w k).l n).length≤(u.l n).length+100:=by
 have h1:=rn hc n (tO hc hs hn w k hk).1
 have h2:=Dp c s w k
 have h3:=hc.nl
 unfold ER;omega
theorem IV (q:Nat):(ER c s u w k).cnt q≤u.cnt q+1:=by
 unfold ER
 rw[gG, wX]
 split<;>omega
theorem BH (n:Nat) (hl:inp.length=c.chans.length):bi c (u0 c inp)=inp:=by
 refine dW (d:=[]) (by rw[ao, hl]) (fun i hi=>?_)
 rw[ao]at hi
 rw[aE hi];rfl
theorem BI:bu c (u0 c inp)=List.replicate c.procs.length 0:=by
 refine dW (d:=(0:Int)) (by rw[ao, List.length_replicate]) (fun i hi=>?_)
 rw[ao]at hi
 rw[aE hi, cL];rfl
theorem JE:dR c (u0 c inp)=List.replicate c.chans.length 0:=by
 refine dW (d:=(0:Int)) (by rw[ao, List.length_replicate]) (fun i hi=>?_)
 rw[ao]at hi
 rw[aE hi, cL];rfl
theorem mV (hk:k<c.procs.length):(bu c v).getD k 0=(v.cnt k:Int):=aE hk
theorem BJ (hk:k<c.chans.length):(dR c v).getD k 0=(v.rd k:Int):=aE hk
end
end Go.Proofs.YtckgpflobhpnpaaGreat
