/-
  Circuits, plain law: states stay states; a process that can fire still can after others; firing one after the other.
-/
import Derived.Test.YtckgpflobhpnpaaGreatQNeB
namespace Go.Proofs.YtckgpflobhpnpaaGreat
open Go.RowKit
set_option linter.unusedVariables false
set_option linter.unusedSimpArgs false
section
variable {p:Pr} {s:Ps} {hs hs':List Hd} {rs rs':List Bool}
theorem o7:fJ p s hs rs=true↔(∀j, j<p.takes.length→kI p s hs j=true)∧∀j, j<p.puts.length→pR p s hs rs j=true:=by
 unfold fJ
 rw[Bool.and_eq_true, bL, bL]
theorem sf (h:fJ p s hs rs=true):aM p s hs rs=⟨true, eS p s (jG p s hs), tab (pS p s hs) p.takes.length, tab (pT p s hs) p.puts.length⟩:=if_pos h
theorem o8 (hp:gW p) (h:fJ p s hs rs=true) (h1:∀j, j<p.takes.length→(hs.getD j aP).has=true→hs'.getD j aP=hs.getD j aP)
  (h2:∀j, j<p.puts.length→rs.getD j false=true→rs'.getD j false=true):aM p s hs' rs'=aM p s hs rs:=by
 obtain⟨ht, hr⟩:=o7.1 h
 have hcur:jG p s hs'=jG p s hs:=by
  unfold jG
  refine iL (fun j hj=>?_)
  unfold rU
  by_cases hd:lP p s (ww p) (mY p j).when=true
  ·have hh:=ht j hj
   unfold kI at hh
   have hdue:lP p s (jG p s hs) (mY p j).when=true:=by rw[← hd];exact(iM hp hj _ _).1
   have hhas:(hs.getD j aP).has=true:=by rw[hdue]at hh;simpa using hh
   rw[h1 j hj hhas]
  ·rw[if_neg (by rintro⟨a, _⟩;exact hd a), if_neg (by rintro⟨a, _⟩;exact hd a)]
 have hf:fJ p s hs' rs'=true:=by
  rw[o7]
  refine⟨fun j hj=>?_, fun j hj=>?_⟩
  ·have hh:=ht j hj
   unfold kI at hh ⊢
   rw[hcur]
   rw[Bool.or_eq_true]at hh ⊢
   rcases hh with hh | hh
   ·left;rw[h1 j hj hh];exact hh
   ·exact .inr hh
  ·have hh:=hr j hj
   unfold pR at hh ⊢
   rw[hcur]
   rw[Bool.or_eq_true]at hh ⊢
   rcases hh with hh | hh
   ·exact .inl (h2 j hj hh)
   ·exact .inr hh
 rw[sf hf, sf h]
 have e1:pS p s hs'=pS p s hs:=by funext j;unfold pS;rw[hcur]
 have e2:pT p s hs'=pT p s hs:=by funext j;unfold pT;rw[hcur]
 rw[hcur, e1, e2]
theorem EU (h:fJ p s hs rs=true) {j:Nat} (hj:j<p.takes.length) (hpop:(aM p s hs rs).pops.getD j false=true):(hs.getD j aP).has=true:=by
 rw[sf h]at hpop
 simp only at hpop
 rw[aC hj]at hpop
 have hh:=(o7.1 h).1 j hj
 unfold kI at hh
 unfold pS at hpop
 rw[hpop]at hh
 simpa using hh
theorem Ih (h:fJ p s hs rs=true) {j:Nat} (hj:j<p.puts.length) (hput:((aM p s hs rs).puts.getD j aP).has=true):rs.getD j false=true:=by
 rw[sf h]at hput
 simp only at hput
 rw[aC hj]at hput
 have hh:=(o7.1 h).2 j hj
 unfold pR at hh
 unfold pT at hput
 split at hput
 ·rename_i hd;rw[hd]at hh;simpa using hh
 ·cases hput
end
section
variable {c:Ci} {s:Ns} {w w':Nat→Bool}
theorem zC (hc:a8 c) {p:Nat} (hp:p<c.procs.length) {f:Fi} (n:Nat):∀{k:Nat}, k≤(bj c p).puts.length→((mO (bj c p) f k).filter (fun e=>e.1==n)).length≤1
 | 0, _=>by simp[mO]
 | k+1, hk=>by
  have ih:=zC hc hp (f:=f) n (k:=k) (by omega)
  rw[mO, List.filter_append, List.length_append]
  by_cases h1:(f.puts.getD k aP).has=true
  ·rw[if_pos h1]
   by_cases e:xn (bj c p) k=n
   ·have h0:(mO (bj c p) f k).filter (fun e=>e.1==n)=[]:=by
     rw[List.filter_eq_nil_iff]
     intro z hz hzn
     obtain⟨j, g1, g2, g3, g4⟩:=sd hz
     have h5:z.1=n:=by simpa using hzn
     have:=hc.pd p hp j k (by omega) (by omega) (by rw[g3, e, h5])
     omega
    rw[h0]
    simp only[List.length_nil, Nat.zero_add]
    exact Nat.le_trans (List.length_filter_le _ _) (by simp)
   ·rw[List.filter_cons_of_neg (by simpa using e), List.filter_nil];exact ih
  ·rw[if_neg h1];exact ih
theorem Bi (hc:a8 c) {p:Nat} (n:Nat):(uH c s p n).length≤1:=by
 by_cases hp:p<c.procs.length
 ·unfold uH;rw[List.length_map];exact zC hc hp n (Nat.le_refl _)
 ·rw[nW hp];simp
theorem Bj {p n:Nat} {v:Int} (h:v∈uH c s p n):∃j, j<(bj c p).puts.length∧((ab c s p).puts.getD j aP).has=true∧xn (bj c p) j=n∧((ab c s p).puts.getD j aP).v=v:=by
 unfold uH at h
 rw[List.mem_map]at h
 obtain⟨e, he, rfl⟩:=h
 rw[List.mem_filter]at he
 obtain⟨j, h1, h2, h3, h4⟩:=sd he.1
 exact⟨j, h1, h2, by rw[h3];simpa using he.2, h4⟩
theorem EV {p n:Nat} {v:Int} (h:v∈uH c s p n):p<c.procs.length:=by
 by_cases hp:p<c.procs.length
 ·exact hp
 ·rw[nW hp]at h;cases h
theorem ym {p n:Nat} (h:eJ c s p n=true):∃j, j<(bj c p).takes.length∧(ab c s p).pops.getD j false=true∧nP (bj c p) j=n:=by
 unfold eJ at h
 exact o6 (of_decide_eq_true h)
theorem yn {p n:Nat} (hcan:dj c s p=true) (h:eJ c s p n=true):0<(lU s n).length:=by
 obtain⟨j, h1, h2, rfl⟩:=ym h
 rw[qL]at hcan
 have:=EU hcan h1 h2
 rw[gz, aC h1]at this
 unfold de at this
 split at this
 ·assumption
 ·cases this
theorem iT {p:Nat} (h:ax c s w p=true):w p=true∧dj c s p=true:=by
 unfold ax at h;simpa using h
theorem gY (c:Ci) (s:Ns) (w:Nat→Bool) {n:Nat} (hn:n<c.chans.length):lU (bf c s w) n=eh c s w n:=by
 show(tab _ _).getD n []=_
 rw[aC hn]
theorem nX (c:Ci) (s:Ns) (w:Nat→Bool) {p:Nat} (hp:p<c.procs.length):zB (bf c s w) p=cF c s w p:=by
 show(tab _ _).getD p bI=_
 rw[aC hp]
theorem sg {α:Type} {a b:List α} {i:Nat} {d:α}:(a++b).getD i d=if i<a.length then a.getD i d else b.getD (i-a.length) d:=by
 simp only[List.getD, List.getElem?_append]
 split<;>rfl
theorem yo {α:Type} {a:List α} {k i:Nat} {d:α}:(a.drop k).getD i d=a.getD (k+i) d:=by
 simp only[List.getD, List.getElem?_drop]
theorem kL {α:Type} {l:List α} {i:Nat} {d:α} (h:i<l.length):l.getD i d∈l:=by
 simp[List.getD, List.getElem?_eq_getElem h]
theorem CX (hc:a8 c) (hs:fa c s) (w:Nat→Bool):fa c (bf c s w) where
 pl:=by rw[bf];exact aq _ _
 cl:=by rw[bf];exact aq _ _
 pv:=fun p hp=>by
  rw[nX c s w hp]
  unfold cF
  split
  ·exact qe (hc.pr p hp) (hs.pv p hp) (sa hc hs hp)
  ·exact hs.pv p hp
 cv:=fun n hn i hi=>by
  rw[gY c s w hn]at hi ⊢
  unfold eh at hi ⊢
  rw[sg]
  split
  ·rename_i h
   rw[yo]
   rw[List.length_drop]at h
   exact hs.cv n hn _ (by omega)
  ·rename_i h
   rw[List.length_append]at hi
   have hm:=kL (d:=(0:Int)) (show i-((lU s n).drop (eu c s w n)).length<(cP c s w n).length by omega)
   generalize (cP c s w n).getD _ 0=v at hm
   unfold cP at hm
   split at hm
   ·have hlt:=EV hm
    obtain⟨j, h1, h2, h3, h4⟩:=Bj hm
    have:=rX (rs:=qK c s (fb c n)) (hc.pr _ hlt) (hs.pv _ hlt) (sa hc hs hlt) h1 h2
    rw[← (hc.pt _ hlt j h1).2.2.1, h3]at this
    rw[← h4];exact this
   ·cases hm
 cc:=fun n hn hf hd=>by
  rw[gY c s w hn]
  unfold eh
  rw[List.length_append, List.length_drop]
  have h0:=hs.cc n hn hf hd
  unfold cP
  split
  ·rename_i hfi
   have h1:=Bi (s:=s) hc (p:=fb c n) n
   by_cases h2:uH c s (fb c n) n=[]
   ·rw[h2];simp only[List.length_nil];omega
   ·obtain⟨v, hv⟩:=List.exists_mem_of_ne_nil _ h2
    have hlt:=EV hv
    obtain⟨j, h1', h2', h3, h4⟩:=Bj hv
    have hcan:=(iT hfi).2
    rw[qL]at hcan
    have hr:=Ih hcan h1' h2'
    rw[qK, aC h1']at hr
    unfold cX at hr
    rw[h3]at hr
    simp only[Bool.or_eq_true, decide_eq_true_eq]at hr
    omega
  ·simp only[List.length_nil];omega
theorem M2 (hc:a8 c) {p j:Nat} (hp:p<c.procs.length) (hj:j<(bj c p).puts.length):fb c (xn (bj c p) j)=p:=by
 rw[fb, (hc.pt p hp j hj).2.2.2];rfl
theorem M3 (hc:a8 c) {p j:Nat} (hp:p<c.procs.length) (hj:j<(bj c p).takes.length):ie c (nP (bj c p) j)=p:=by
 rw[ie, (hc.tk p hp j hj).2.2.2];rfl
theorem LU (hc:a8 c) {p j:Nat} (hp:p<c.procs.length) (hj:j<(bj c p).takes.length):nP (bj c p) j<c.chans.length:=by
 have:=hc.tk p hp j hj
 show(mY (bj c p) j).chan.toNat<_
 omega
theorem LV (hc:a8 c) {p j:Nat} (hp:p<c.procs.length) (hj:j<(bj c p).puts.length):xn (bj c p) j<c.chans.length:=by
 have:=hc.pt p hp j hj
 show(ub (bj c p) j).chan.toNat<_
 omega
theorem EW {n:Nat} (h:w (ie c n)=false):eu c s w n=0:=by
 rw[eu, if_neg]
 rintro⟨h1, _⟩
 rw[(iT h1).1]at h;cases h
theorem EX {n:Nat} (h:w (fb c n)=false):cP c s w n=[]:=by
 rw[cP, if_neg]
 intro h1
 rw[(iT h1).1]at h;cases h
theorem wB (hc:a8 c) {p:Nat} (hp:p<c.procs.length) (hcan:dj c s p=true) (hw:w p=false):ab c (bf c s w) p=ab c s p∧zB (bf c s w) p=zB s p:=by
 have hps:zB (bf c s w) p=zB s p:=by
  rw[nX c s w hp, cF, if_neg (by unfold ax;rw[hw];simp)]
 refine⟨?_, hps⟩
 unfold ab
 rw[hps]
 rw[qL]at hcan
 refine o8 (hc.pr p hp) hcan (fun j hj hh=>?_) (fun j hj hh=>?_)
 ·rw[gz, aC hj]at hh ⊢
  rw[gz, aC hj]
  unfold de at hh ⊢
  rw[gY c s w (LU hc hp hj), eh, EW (by rw[M3 hc hp hj];exact hw), List.drop_zero]
  split at hh
  ·rename_i h0
   rw[if_pos h0, if_pos (by rw[List.length_append];omega), sg, if_pos h0]
  ·cases hh
 ·rw[qK, aC hj]at hh ⊢
  unfold cX at hh ⊢
  rw[gY c s w (LV hc hp hj), eh, EX (by rw[M2 hc hp hj];exact hw), List.append_nil, List.length_drop]
  simp only[Bool.or_eq_true, decide_eq_true_eq]at hh ⊢
  omega
theorem yp (h:∀p, ax c s w p=ax c s w' p):bf c s w=bf c s w':=by
 have h1:cF c s w=cF c s w':=by funext p;unfold cF;rw[h p]
 have h2:eh c s w=eh c s w':=by funext n;unfold eh eu cP;rw[h, h]
 unfold bf;rw[h1, h2]
theorem Ii {p:Nat} (h:ax c s w p=false):cF c s w p=zB s p:=by
 unfold cF;rw[if_neg (by rw[h];simp)]
theorem Bk {p:Nat} (hs:c.procs.length≤p):eJ c s p=fun _=>false:=by
 funext n
 cases h:eJ c s p n
 ·rfl
 ·exfalso
  obtain⟨j, h1, _⟩:=ym h
  have e:bj c p=af:=by rw[bj, List.getD, List.getElem?_eq_none (by omega)];rfl
  rw[e]at h1
  exact Nat.not_lt_zero _ h1
theorem Ij (hs:fa c s) (h:∀p, p<c.procs.length→ax c s w p=false):bf c s w=s:=by
 have e1:(bf c s w).procs=s.procs:=by
  refine dt (d:=bI) (by rw[bf, aq, hs.pl]) (fun p hp=>?_)
  rw[bf, aq]at hp
  show zB (bf c s w) p=zB s p
  rw[nX c s w hp, Ii (h p hp)]
 have e2:(bf c s w).chans=s.chans:=by
  refine dt (d:=[]) (by rw[bf, aq, hs.cl]) (fun n hn=>?_)
  rw[bf, aq]at hn
  show lU (bf c s w) n=lU s n
  rw[gY c s w hn, eh]
  have h1:eu c s w n=0:=by
   rw[eu]
   by_cases hd:ie c n<c.procs.length
   ·rw[h _ hd];simp
   ·rw[if_neg]
    rintro⟨_, h2⟩
    rw[Bk (by omega)]at h2;cases h2
  have h2:cP c s w n=[]:=by
   rw[cP]
   by_cases hd:fb c n<c.procs.length
   ·rw[h _ hd];simp
   ·split
    ·exact nW hd
    ·rfl
  rw[h1, h2];simp
 cases s;cases hq:bf c _ w
 rw[hq]at e1 e2
 simp only at e1 e2
 rw[e1, e2]
def cm (p:Nat):Nat→Bool:=fun q=>decide (q=p)
theorem kM (p:Nat):cm p p=true:=by simp[cm]
theorem vd {p q:Nat} (h:q≠p):cm p q=false:=by simp[cm, h]
theorem KX (hc:a8 c) {p:Nat} (hp:p<c.procs.length) (hcan:dj c s p=true) (hw:w p=false):bf c (bf c s w) (cm p)=bf c s (fun q=>w q||cm p q):=by
 obtain⟨hst, hps⟩:=wB (w:=w) hc hp hcan hw
 have hcan2:dj c (bf c s w) p=true:=by unfold dj;rw[hst];exact hcan
 have hfp:ax c (bf c s w) (cm p) p=true:=by unfold ax;rw[kM, hcan2];rfl
 have hfq:∀q, q≠p→ax c (bf c s w) (cm p) q=false:=fun q hq=>by unfold ax;rw[vd hq];rfl
 have gp:ax c s (fun q=>w q||cm p q) p=true:=by unfold ax;simp[kM, hcan]
 have gq:∀q, q≠p→ax c s (fun q=>w q||cm p q) q=ax c s w q:=fun q hq=>by unfold ax;simp[vd hq]
 have e1:∀q, q<c.procs.length→cF c (bf c s w) (cm p) q=cF c s (fun q=>w q||cm p q) q:=by
  intro q hq
  unfold cF
  by_cases e:q=p
  ·subst e;rw[if_pos hfp, if_pos gp, hst]
  ·rw[hfq q e, gq q e, if_neg (by simp), nX c s w hq];rfl
 have hfw:ax c s w p=false:=by unfold ax;rw[hw];rfl
 have e2:∀n, n<c.chans.length→eh c (bf c s w) (cm p) n=eh c s (fun q=>w q||cm p q) n:=by
  intro n hn
  unfold eh
  rw[gY c s w hn, eh]
  have hcome:cP c (bf c s w) (cm p) n=if fb c n=p then uH c s p n else []:=by
   unfold cP
   by_cases e:fb c n=p
   ·rw[if_pos e, e, if_pos hfp];unfold uH;rw[hst]
   ·rw[if_neg e, hfq _ e];simp
  have hcome2:cP c s (fun q=>w q||cm p q) n=if fb c n=p then uH c s p n else cP c s w n:=by
   unfold cP
   by_cases e:fb c n=p
   ·rw[if_pos e, e, if_pos gp]
   ·rw[if_neg e, gq _ e]
  have hcome3:fb c n=p→cP c s w n=[]:=fun e=>EX (by rw[e];exact hw)
  have hgone:eu c (bf c s w) (cm p) n=if ie c n=p∧eJ c s p n=true then 1 else 0:=by
   unfold eu
   by_cases e:ie c n=p
   ·rw[e]
    have:eJ c (bf c s w) p n=eJ c s p n:=by unfold eJ;rw[hst]
    rw[this, hfp];simp
   ·rw[hfq _ e, if_neg (by simp), if_neg (by simp[e])]
  have hgone2:eu c s (fun q=>w q||cm p q) n=if ie c n=p∧eJ c s p n=true then 1 else eu c s w n:=by
   unfold eu
   by_cases e:ie c n=p
   ·rw[e, gp, hfw];simp
   ·rw[gq _ e];simp[e]
  have hgone3:ie c n=p→eu c s w n=0:=fun e=>EW (by rw[e];exact hw)
  rw[hcome, hcome2, hgone, hgone2]
  have key:∀(z:List Int), (if fb c n=p then cP c s w n++z else cP c s w n)=(if fb c n=p then z else cP c s w n):=by
   intro z;split
   ·rename_i e;rw[hcome3 e];rfl
   ·rfl
  by_cases ht:ie c n=p∧eJ c s p n=true
  ·rw[if_pos ht, if_pos ht, hgone3 ht.1, List.drop_zero]
   have h0:=yn hcan ht.2
   rw[List.drop_append_of_le_length (by omega)]
   by_cases e:fb c n=p
   ·rw[if_pos e, if_pos e, hcome3 e, List.append_nil]
   ·rw[if_neg e, if_neg e, List.append_nil]
  ·rw[if_neg ht, if_neg ht, List.drop_zero]
   by_cases e:fb c n=p
   ·rw[if_pos e, if_pos e, hcome3 e, List.append_nil]
   ·rw[if_neg e, if_neg e, List.append_nil]
 unfold bf
 rw[show tab (cF c ⟨tab (cF c s w) c.procs.length, tab (eh c s w) c.chans.length⟩ (cm p)) c.procs.length=tab (cF c s (fun q=>w q||cm p q)) c.procs.length from iL e1,
  show tab (eh c ⟨tab (cF c s w) c.procs.length, tab (eh c s w) c.chans.length⟩ (cm p)) c.chans.length=tab (eh c s (fun q=>w q||cm p q)) c.chans.length from iL e2]
end
end Go.Proofs.YtckgpflobhpnpaaGreat
