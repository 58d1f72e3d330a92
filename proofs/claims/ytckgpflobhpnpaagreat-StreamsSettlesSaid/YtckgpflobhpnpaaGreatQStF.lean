/-
  What a process does in a state, with room everywhere; traces, tick by tick.
-/
import Derived.Test.YtckgpflobhpnpaaGreatQStE
namespace Go.Proofs.YtckgpflobhpnpaaGreat
open Go.RowKit
set_option linter.unusedVariables false
set_option linter.unusedSimpArgs false
def L6 (c:Ci):Prop:=∀p, p<c.procs.length→1≤(bj c p).puts.length∧(bj c p).puts.length≤2
def bZ (c:Ci) (s:Ns) (k:Nat):Fi:=aM (bj c k) (zB s k) (gz c s k) (Dp c k)
section
variable {c:Ci} {s:Ns} {u v:Uf} {p n k i:Nat} {inp:List (List Int)} {cls:List ByteArray} {w:Nat→Bool}
theorem Lb (hc:a8 c) (hp:p<c.procs.length) (hcan:dj c s p=true):bZ c s p=ab c s p:=by
 rw[qL]at hcan
 unfold bZ ab
 refine o8 (hc.pr p hp) hcan (fun j hj hh=>rfl) (fun j hj _=>?_)
 unfold Dp
 rw[d9 _ _ (by rw[List.length_replicate];exact hj), List.getElem_replicate]
theorem sD (hc:a8 c) (n:Nat):∀{l:List Nat} {u:Uf}, jo c u l→((b9 c u l).l n).length≤(u.l n).length+l.length
 | [], u, _=>Nat.le_refl _
 | p::r, u, h=>by
  refine Nat.le_trans (sD hc n (l:=r) h.2.2) ?_
  have:=BD (f:=ge c u p) (n:=n) hc h.1
  show(u.l n++iA c p (ge c u p) n).length+r.length≤_+(r.length+1)
  rw[List.length_append];omega
theorem Fq (c:Ci) (s:Ns) (w:Nat→Bool) (P:Nat):(kk c s w P).length≤P:=by
 unfold kk
 exact Nat.le_trans (List.length_filter_le _ _) (by simp)
theorem Fr (c:Ci):∀(l:List (Nat→Bool)) (s:Ns), (ij c s l).length≤l.length*c.procs.length
 | [], s=>by simp[ij]
 | w::r, s=>by
  have h1:=Fq c s w c.procs.length
  have h2:=Fr c r (bf c s w)
  rw[ij, List.length_append, List.length_cons, Nat.succ_mul];omega
theorem BF:∀{l m:List (Nat→Bool)} {s:Ns}, xq c s (l++m)=xq c (xq c s l) m
 | [], _, _=>rfl
 | w::r, m, s=>by rw[List.cons_append, xq, xq, BF (l:=r)]
def J0 (c:Ci) (inp:List (List Int)) (cls:List ByteArray) (i:Nat):Ns:=xq c (dg c inp) ((cls.map (br c)).take i)
def Jr (c:Ci) (inp:List (List Int)) (cls:List ByteArray) (i:Nat):Uf:=b9 c (u0 c inp) (ij c (dg c inp) ((cls.map (br c)).take i))
theorem Fs (hi:i<cls.length):(cls.map (br c)).take (i+1)=(cls.map (br c)).take i++[br c (cls.getD i .empty)]:=by
 rw[List.take_add_one, List.getElem?_map, List.getElem?_eq_getElem hi, List.getD_eq_getElem?_getD, List.getElem?_eq_getElem hi];rfl
theorem Js (hi:i<cls.length):J0 c inp cls (i+1)=bf c (J0 c inp cls i) (br c (cls.getD i .empty)):=by
 unfold J0;rw[Fs hi, BF];rfl
theorem Jt (hi:i<cls.length):Jr c inp cls (i+1)=b9 c (Jr c inp cls i) (kk c (J0 c inp cls i) (br c (cls.getD i .empty)) c.procs.length):=by
 unfold Jr;rw[Fs hi, Fc, kT]
 show b9 c _ (ij c (J0 c inp cls i) [_])=_
 rw[ij, ij, List.append_nil]
theorem vu (hi:cls.length≤i):Jr c inp cls i=Dz c inp cls:=by
 unfold Jr Dz;rw[List.take_of_length_le (by simpa using hi)]
theorem Ju (hc:a8 c) (h:jI c inp):jo c (u0 c inp) (ij c (dg c inp) ((cls.map (br c)).take i))∧NU c (J0 c inp cls i) (Jr c inp cls i)∧fa c (J0 c inp cls i)∧∀q, (Jr c inp cls i).cnt q≤i:=by
 obtain⟨a, b, d, e⟩:=I2 hc (l:=(cls.map (br c)).take i) (BB hc h) (L2 c (inp:=inp))
 refine⟨a, b, d, fun q=>?_⟩
 unfold Jr
 rw[eT]
 have:=e q
 rw[List.length_take]at this
 show 0+_≤_
 omega
theorem DF (hc:a8 c) (h:jI c inp) (hi:i≤100) (n:Nat):((Jr c inp cls i).l n).length≤11000:=by
 have h1:=sD hc n (Ju (cls:=cls) (i:=i) hc h).1
 have h2:=Fr c ((cls.map (br c)).take i) (dg c inp)
 have h3:=h.sm n
 have h4:=hc.nl
 have h5:((cls.map (br c)).take i).length≤100:=by rw[List.length_take];omega
 have h6:((cls.map (br c)).take i).length*c.procs.length≤100*100:=Nat.mul_le_mul h5 h4
 have h7:((u0 c inp).l n).length≤1000:=h3
 unfold Jr
 omega
theorem OY (hc:a8 c) (h:jI c inp) (hi:i≤100):EY (J0 c inp cls i) 11000:=fun n=>by
 obtain⟨_, b, d, _⟩:=Ju (cls:=cls) (i:=i) hc h
 by_cases hn:n<c.chans.length
 ·rw[b.wd n hn, List.length_drop];have:=DF (cls:=cls) hc h hi n;omega
 ·show((J0 c inp cls i).chans.getD n []).length≤_
  rw[List.getD_eq_getElem?_getD, List.getElem?_eq_none (by have:=d.cl;omega)];simp
def GT (c:Ci) (s:Ns) (u:Uf) (w:Nat→Bool) (k:Nat):Uf:=b9 c u (kk c s w k)
theorem BG (k:Nat):kk c s w (k+1)=kk c s w k++(if ax c s w k=true then [k]else []):=by
 unfold kk
 rw[List.range_succ, List.filter_append]
 split
 ·rename_i hf;rw[List.filter_cons_of_pos hf, List.filter_nil]
 ·rename_i hf;rw[List.filter_cons_of_neg hf, List.filter_nil]
theorem Lc (h:ax c s w k=true):GT c s u w (k+1)=ao c (GT c s u w k) k:=by
 unfold GT;rw[BG, if_pos h, kT];rfl
theorem Nz (h:ax c s w k=false):GT c s u w (k+1)=GT c s u w k:=by
 unfold GT;rw[BG, if_neg (by rw[h];simp), List.append_nil]
theorem NA (hc:a8 c) (hs:fa c s) (hn:NU c s u) (hk:k<c.procs.length) (h:ax c s w k=true):ge c (GT c s u w k) k=bZ c s k:=by
 rw[Lb hc hk (iT h).2]
 exact(vj hc hs hn w _ (Nat.le_refl _)).2.2 k hk h
theorem Ld (hc:a8 c) (hs:fa c s) (hn:NU c s u) (hk:k≤c.procs.length) (n:Nat):((GT c s u w k).l n).length≤(u.l n).length+100:=by
 have h1:=sD hc n (vj hc hs hn w k hk).1
 have h2:=Fq c s w k
 have h3:=hc.nl
 unfold GT;omega
theorem Lf (q:Nat):(GT c s u w k).cnt q≤u.cnt q+1:=by
 unfold GT
 rw[eT, yz]
 split<;>omega
theorem Jv (n:Nat) (hl:inp.length=c.chans.length):ca c (u0 c inp)=inp:=by
 refine dt (d:=[]) (by rw[aq, hl]) (fun i hi=>?_)
 rw[aq]at hi
 rw[aC hi];rfl
theorem Jw:dD c (u0 c inp)=List.replicate c.procs.length 0:=by
 refine dt (d:=(0:Int)) (by rw[aq, List.length_replicate]) (fun i hi=>?_)
 rw[aq]at hi
 rw[aC hi, bS];rfl
theorem OZ:kv c (u0 c inp)=List.replicate c.chans.length 0:=by
 refine dt (d:=(0:Int)) (by rw[aq, List.length_replicate]) (fun i hi=>?_)
 rw[aq]at hi
 rw[aC hi, bS];rfl
theorem z5 (hk:k<c.procs.length):(dD c v).getD k 0=(v.cnt k:Int):=aC hk
theorem Jx (hk:k<c.chans.length):(kv c v).getD k 0=(v.rd k:Int):=aC hk
end
end Go.Proofs.YtckgpflobhpnpaaGreat
