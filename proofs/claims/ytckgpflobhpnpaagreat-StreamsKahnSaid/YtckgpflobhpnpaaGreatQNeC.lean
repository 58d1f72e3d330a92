/-
  Circuits, plain law: states stay states; a process that can fire still can after others; firing one after the other.
-/
import Derived.Test.YtckgpflobhpnpaaGreatQNeB
namespace Go.Proofs.YtckgpflobhpnpaaGreat
open Go.RowKit
set_option linter.unusedVariables false
set_option linter.unusedSimpArgs false
section
variable {p:Pr} {s:Ps} {hs hs':List Hd} {rs rs':List Bool}
theorem nR:fp p s hs rs=true↔(∀j, j<p.takes.length→jZ p s hs j=true)∧∀j, j<p.puts.length→oT p s hs rs j=true:=by
 unfold fp
 rw[Bool.and_eq_true, cf, cf]
theorem rb (h:fp p s hs rs=true):ay p s hs rs=⟨true, eE p s (jg p s hs), tab (oU p s hs) p.takes.length, tab (oV p s hs) p.puts.length⟩:=if_pos h
theorem nU (hp:fq p) (h:fp p s hs rs=true) (h1:∀j, j<p.takes.length→(hs.getD j aP).has=true→hs'.getD j aP=hs.getD j aP)
  (h2:∀j, j<p.puts.length→rs.getD j false=true→rs'.getD j false=true):ay p s hs' rs'=ay p s hs rs:=by
 obtain⟨ht, hr⟩:=nR.1 h
 have hcur:jg p s hs'=jg p s hs:=by
  unfold jg
  refine iq (fun j hj=>?_)
  unfold qR
  by_cases hd:kR p s (u4 p) (lO p j).when=true
  ·have hh:=ht j hj
   unfold jZ at hh
   have hdue:kR p s (jg p s hs) (lO p j).when=true:=by rw[← hd];exact(ir hp hj _ _).1
   have hhas:(hs.getD j aP).has=true:=by rw[hdue]at hh;simpa using hh
   rw[h1 j hj hhas]
  ·rw[if_neg (by rintro⟨a, _⟩;exact hd a), if_neg (by rintro⟨a, _⟩;exact hd a)]
 have hf:fp p s hs' rs'=true:=by
  rw[nR]
  refine⟨fun j hj=>?_, fun j hj=>?_⟩
  ·have hh:=ht j hj
   unfold jZ at hh ⊢
   rw[hcur]
   rw[Bool.or_eq_true]at hh ⊢
   rcases hh with hh | hh
   ·left;rw[h1 j hj hh];exact hh
   ·exact .inr hh
  ·have hh:=hr j hj
   unfold oT at hh ⊢
   rw[hcur]
   rw[Bool.or_eq_true]at hh ⊢
   rcases hh with hh | hh
   ·exact .inl (h2 j hj hh)
   ·exact .inr hh
 rw[rb hf, rb h]
 have e1:oU p s hs'=oU p s hs:=by funext j;unfold oU;rw[hcur]
 have e2:oV p s hs'=oV p s hs:=by funext j;unfold oV;rw[hcur]
 rw[hcur, e1, e2]
theorem C3 (h:fp p s hs rs=true) {j:Nat} (hj:j<p.takes.length) (hpop:(ay p s hs rs).pops.getD j false=true):(hs.getD j aP).has=true:=by
 rw[rb h]at hpop
 simp only at hpop
 rw[aE hj]at hpop
 have hh:=(nR.1 h).1 j hj
 unfold jZ at hh
 unfold oU at hpop
 rw[hpop]at hh
 simpa using hh
theorem Gi (h:fp p s hs rs=true) {j:Nat} (hj:j<p.puts.length) (hput:((ay p s hs rs).puts.getD j aP).has=true):rs.getD j false=true:=by
 rw[rb h]at hput
 simp only at hput
 rw[aE hj]at hput
 have hh:=(nR.1 h).2 j hj
 unfold oT at hh
 unfold oV at hput
 split at hput
 ·rename_i hd;rw[hd]at hh;simpa using hh
 ·cases hput
end
section
variable {c:Ci} {s:Ns} {w w':Nat→Bool}
theorem x4 (hc:a6 c) {p:Nat} (hp:p<c.procs.length) {f:Fi} (n:Nat):∀{k:Nat}, k≤(bc c p).puts.length→((mI (bc c p) f k).filter (fun e=>e.1==n)).length≤1
 | 0, _=>by simp[mI]
 | k+1, hk=>by
  have ih:=x4 hc hp (f:=f) n (k:=k) (by omega)
  rw[mI, List.filter_append, List.length_append]
  by_cases h1:(f.puts.getD k aP).has=true
  ·rw[if_pos h1]
   by_cases e:vL (bc c p) k=n
   ·have h0:(mI (bc c p) f k).filter (fun e=>e.1==n)=[]:=by
     rw[List.filter_eq_nil_iff]
     intro z hz hzn
     obtain⟨j, g1, g2, g3, g4⟩:=ra hz
     have h5:z.1=n:=by simpa using hzn
     have:=hc.pd p hp j k (by omega) (by omega) (by rw[g3, e, h5])
     omega
    rw[h0]
    simp only[List.length_nil, Nat.zero_add]
    exact Nat.le_trans (List.length_filter_le _ _) (by simp)
   ·rw[List.filter_cons_of_neg (by simpa using e), List.filter_nil];exact ih
  ·rw[if_neg h1];exact ih
theorem Gj (hc:a6 c) {p:Nat} (n:Nat):(tg c s p n).length≤1:=by
 by_cases hp:p<c.procs.length
 ·unfold tg;rw[List.length_map];exact x4 hc hp n (Nat.le_refl _)
 ·rw[mL hp];simp
theorem zH {p n:Nat} {v:Int} (h:v∈tg c s p n):∃j, j<(bc c p).puts.length∧((af c s p).puts.getD j aP).has=true∧vL (bc c p) j=n∧((af c s p).puts.getD j aP).v=v:=by
 unfold tg at h
 rw[List.mem_map]at h
 obtain⟨e, he, rfl⟩:=h
 rw[List.mem_filter]at he
 obtain⟨j, h1, h2, h3, h4⟩:=ra he.1
 exact⟨j, h1, h2, by rw[h3];simpa using he.2, h4⟩
theorem C4 {p n:Nat} {v:Int} (h:v∈tg c s p n):p<c.procs.length:=by
 by_cases hp:p<c.procs.length
 ·exact hp
 ·rw[mL hp]at h;cases h
theorem wN {p n:Nat} (h:eu c s p n=true):∃j, j<(bc c p).takes.length∧(af c s p).pops.getD j false=true∧mH (bc c p) j=n:=by
 unfold eu at h
 exact nQ (of_decide_eq_true h)
theorem wO {p n:Nat} (hcan:gg c s p=true) (h:eu c s p n=true):0<(xY s n).length:=by
 obtain⟨j, h1, h2, rfl⟩:=wN h
 rw[sk]at hcan
 have:=C3 hcan h1 h2
 rw[gf, aE h1]at this
 unfold cM at this
 split at this
 ·assumption
 ·cases this
theorem iy {p:Nat} (h:aA c s w p=true):w p=true∧gg c s p=true:=by
 unfold aA at h;simpa using h
theorem iU (c:Ci) (s:Ns) (w:Nat→Bool) {n:Nat} (hn:n<c.chans.length):xY (bD c s w) n=dY c s w n:=by
 show(tab _ _).getD n []=_
 rw[aE hn]
theorem mM (c:Ci) (s:Ns) (w:Nat→Bool) {p:Nat} (hp:p<c.procs.length):Bf (bD c s w) p=cO c s w p:=by
 show(tab _ _).getD p bB=_
 rw[aE hp]
theorem rc {α:Type} {a b:List α} {i:Nat} {d:α}:(a++b).getD i d=if i<a.length then a.getD i d else b.getD (i-a.length) d:=by
 simp only[List.getD, List.getElem?_append]
 split<;>rfl
theorem wP {α:Type} {a:List α} {k i:Nat} {d:α}:(a.drop k).getD i d=a.getD (k+i) d:=by
 simp only[List.getD, List.getElem?_drop]
theorem j8 {α:Type} {l:List α} {i:Nat} {d:α} (h:i<l.length):l.getD i d∈l:=by
 simp[List.getD, List.getElem?_eq_getElem h]
theorem Kz (hc:a6 c) (hs:j6 c s) (w:Nat→Bool):j6 c (bD c s w) where
 pl:=by rw[bD];exact ao _ _
 cl:=by rw[bD];exact ao _ _
 pv:=fun p hp=>by
  rw[mM c s w hp]
  unfold cO
  split
  ·exact jH (hc.pr p hp) (hs.pv p hp) (qZ hc hs hp)
  ·exact hs.pv p hp
 cv:=fun n hn i hi=>by
  rw[iU c s w hn]at hi ⊢
  unfold dY at hi ⊢
  rw[rc]
  split
  ·rename_i h
   rw[wP]
   rw[List.length_drop]at h
   exact hs.cv n hn _ (by omega)
  ·rename_i h
   rw[List.length_append]at hi
   have hm:=j8 (d:=(0:Int)) (show i-((xY s n).drop (dX c s w n)).length<(cN c s w n).length by omega)
   generalize (cN c s w n).getD _ 0=v at hm
   unfold cN at hm
   split at hm
   ·have hlt:=C4 hm
    obtain⟨j, h1, h2, h3, h4⟩:=zH hm
    have:=qT (rs:=u6 c s (eO c n)) (hc.pr _ hlt) (hs.pv _ hlt) (qZ hc hs hlt) h1 h2
    rw[← (hc.pt _ hlt j h1).2.2.1, h3]at this
    rw[← h4];exact this
   ·cases hm
 cc:=fun n hn hf hd=>by
  rw[iU c s w hn]
  unfold dY
  rw[List.length_append, List.length_drop]
  have h0:=hs.cc n hn hf hd
  unfold cN
  split
  ·rename_i hfi
   have h1:=Gj (s:=s) hc (p:=eO c n) n
   by_cases h2:tg c s (eO c n) n=[]
   ·rw[h2];simp only[List.length_nil];omega
   ·obtain⟨v, hv⟩:=List.exists_mem_of_ne_nil _ h2
    have hlt:=C4 hv
    obtain⟨j, h1', h2', h3, h4⟩:=zH hv
    have hcan:=(iy hfi).2
    rw[sk]at hcan
    have hr:=Gi hcan h1' h2'
    rw[u6, aE h1']at hr
    unfold cU at hr
    rw[h3]at hr
    simp only[Bool.or_eq_true, decide_eq_true_eq]at hr
    omega
  ·simp only[List.length_nil];omega
theorem KA (hc:a6 c) {p j:Nat} (hp:p<c.procs.length) (hj:j<(bc c p).puts.length):eO c (vL (bc c p) j)=p:=by
 rw[eO, (hc.pt p hp j hj).2.2.2];rfl
theorem KB (hc:a6 c) {p j:Nat} (hp:p<c.procs.length) (hj:j<(bc c p).takes.length):gP c (mH (bc c p) j)=p:=by
 rw[gP, (hc.tk p hp j hj).2.2.2];rfl
theorem Ju (hc:a6 c) {p j:Nat} (hp:p<c.procs.length) (hj:j<(bc c p).takes.length):mH (bc c p) j<c.chans.length:=by
 have:=hc.tk p hp j hj
 show(lO (bc c p) j).chan.toNat<_
 omega
theorem Md (hc:a6 c) {p j:Nat} (hp:p<c.procs.length) (hj:j<(bc c p).puts.length):vL (bc c p) j<c.chans.length:=by
 have:=hc.pt p hp j hj
 show(sT (bc c p) j).chan.toNat<_
 omega
theorem C5 {n:Nat} (h:w (gP c n)=false):dX c s w n=0:=by
 rw[dX, if_neg]
 rintro⟨h1, _⟩
 rw[(iy h1).1]at h;cases h
theorem C6 {n:Nat} (h:w (eO c n)=false):cN c s w n=[]:=by
 rw[cN, if_neg]
 intro h1
 rw[(iy h1).1]at h;cases h
theorem u9 (hc:a6 c) {p:Nat} (hp:p<c.procs.length) (hcan:gg c s p=true) (hw:w p=false):af c (bD c s w) p=af c s p∧Bf (bD c s w) p=Bf s p:=by
 have hps:Bf (bD c s w) p=Bf s p:=by
  rw[mM c s w hp, cO, if_neg (by unfold aA;rw[hw];simp)]
 refine⟨?_, hps⟩
 unfold af
 rw[hps]
 rw[sk]at hcan
 refine nU (hc.pr p hp) hcan (fun j hj hh=>?_) (fun j hj hh=>?_)
 ·rw[gf, aE hj]at hh ⊢
  rw[gf, aE hj]
  unfold cM at hh ⊢
  rw[iU c s w (Ju hc hp hj), dY, C5 (by rw[KB hc hp hj];exact hw), List.drop_zero]
  split at hh
  ·rename_i h0
   rw[if_pos h0, if_pos (by rw[List.length_append];omega), rc, if_pos h0]
  ·cases hh
 ·rw[u6, aE hj]at hh ⊢
  unfold cU at hh ⊢
  rw[iU c s w (Md hc hp hj), dY, C6 (by rw[KA hc hp hj];exact hw), List.append_nil, List.length_drop]
  simp only[Bool.or_eq_true, decide_eq_true_eq]at hh ⊢
  omega
theorem wQ (h:∀p, aA c s w p=aA c s w' p):bD c s w=bD c s w':=by
 have h1:cO c s w=cO c s w':=by funext p;unfold cO;rw[h p]
 have h2:dY c s w=dY c s w':=by funext n;unfold dY dX cN;rw[h, h]
 unfold bD;rw[h1, h2]
theorem Gk {p:Nat} (h:aA c s w p=false):cO c s w p=Bf s p:=by
 unfold cO;rw[if_neg (by rw[h];simp)]
theorem zI {p:Nat} (hs:c.procs.length≤p):eu c s p=fun _=>false:=by
 funext n
 cases h:eu c s p n
 ·rfl
 ·exfalso
  obtain⟨j, h1, _⟩:=wN h
  have e:bc c p=aa:=by rw[bc, List.getD, List.getElem?_eq_none (by omega)];rfl
  rw[e]at h1
  exact Nat.not_lt_zero _ h1
theorem Gl (hs:j6 c s) (h:∀p, p<c.procs.length→aA c s w p=false):bD c s w=s:=by
 have e1:(bD c s w).procs=s.procs:=by
  refine dW (d:=bB) (by rw[bD, ao, hs.pl]) (fun p hp=>?_)
  rw[bD, ao]at hp
  show Bf (bD c s w) p=Bf s p
  rw[mM c s w hp, Gk (h p hp)]
 have e2:(bD c s w).chans=s.chans:=by
  refine dW (d:=[]) (by rw[bD, ao, hs.cl]) (fun n hn=>?_)
  rw[bD, ao]at hn
  show xY (bD c s w) n=xY s n
  rw[iU c s w hn, dY]
  have h1:dX c s w n=0:=by
   rw[dX]
   by_cases hd:gP c n<c.procs.length
   ·rw[h _ hd];simp
   ·rw[if_neg]
    rintro⟨_, h2⟩
    rw[zI (by omega)]at h2;cases h2
  have h2:cN c s w n=[]:=by
   rw[cN]
   by_cases hd:eO c n<c.procs.length
   ·rw[h _ hd];simp
   ·split
    ·exact mL hd
    ·rfl
  rw[h1, h2];simp
 cases s;cases hq:bD c _ w
 rw[hq]at e1 e2
 simp only at e1 e2
 rw[e1, e2]
def cQ (p:Nat):Nat→Bool:=fun q=>decide (q=p)
theorem j9 (p:Nat):cQ p p=true:=by simp[cQ]
theorem tL {p q:Nat} (h:q≠p):cQ p q=false:=by simp[cQ, h]
theorem IE (hc:a6 c) {p:Nat} (hp:p<c.procs.length) (hcan:gg c s p=true) (hw:w p=false):bD c (bD c s w) (cQ p)=bD c s (fun q=>w q||cQ p q):=by
 obtain⟨hst, hps⟩:=u9 (w:=w) hc hp hcan hw
 have hcan2:gg c (bD c s w) p=true:=by unfold gg;rw[hst];exact hcan
 have hfp:aA c (bD c s w) (cQ p) p=true:=by unfold aA;rw[j9, hcan2];rfl
 have hfq:∀q, q≠p→aA c (bD c s w) (cQ p) q=false:=fun q hq=>by unfold aA;rw[tL hq];rfl
 have gp:aA c s (fun q=>w q||cQ p q) p=true:=by unfold aA;simp[j9, hcan]
 have gq:∀q, q≠p→aA c s (fun q=>w q||cQ p q) q=aA c s w q:=fun q hq=>by unfold aA;simp[tL hq]
 have e1:∀q, q<c.procs.length→cO c (bD c s w) (cQ p) q=cO c s (fun q=>w q||cQ p q) q:=by
  intro q hq
  unfold cO
  by_cases e:q=p
  ·subst e;rw[if_pos hfp, if_pos gp, hst]
  ·rw[hfq q e, gq q e, if_neg (by simp), mM c s w hq];rfl
 have hfw:aA c s w p=false:=by unfold aA;rw[hw];rfl
 have e2:∀n, n<c.chans.length→dY c (bD c s w) (cQ p) n=dY c s (fun q=>w q||cQ p q) n:=by
  intro n hn
  unfold dY
  rw[iU c s w hn, dY]
  have hcome:cN c (bD c s w) (cQ p) n=if eO c n=p then tg c s p n else []:=by
   unfold cN
   by_cases e:eO c n=p
   ·rw[if_pos e, e, if_pos hfp];unfold tg;rw[hst]
   ·rw[if_neg e, hfq _ e];simp
  have hcome2:cN c s (fun q=>w q||cQ p q) n=if eO c n=p then tg c s p n else cN c s w n:=by
   unfold cN
   by_cases e:eO c n=p
   ·rw[if_pos e, e, if_pos gp]
   ·rw[if_neg e, gq _ e]
  have hcome3:eO c n=p→cN c s w n=[]:=fun e=>C6 (by rw[e];exact hw)
  have hgone:dX c (bD c s w) (cQ p) n=if gP c n=p∧eu c s p n=true then 1 else 0:=by
   unfold dX
   by_cases e:gP c n=p
   ·rw[e]
    have:eu c (bD c s w) p n=eu c s p n:=by unfold eu;rw[hst]
    rw[this, hfp];simp
   ·rw[hfq _ e, if_neg (by simp), if_neg (by simp[e])]
  have hgone2:dX c s (fun q=>w q||cQ p q) n=if gP c n=p∧eu c s p n=true then 1 else dX c s w n:=by
   unfold dX
   by_cases e:gP c n=p
   ·rw[e, gp, hfw];simp
   ·rw[gq _ e];simp[e]
  have hgone3:gP c n=p→dX c s w n=0:=fun e=>C5 (by rw[e];exact hw)
  rw[hcome, hcome2, hgone, hgone2]
  have key:∀(z:List Int), (if eO c n=p then cN c s w n++z else cN c s w n)=(if eO c n=p then z else cN c s w n):=by
   intro z;split
   ·rename_i e;rw[hcome3 e];rfl
   ·rfl
  by_cases ht:gP c n=p∧eu c s p n=true
  ·rw[if_pos ht, if_pos ht, hgone3 ht.1, List.drop_zero]
   have h0:=wO hcan ht.2
   rw[List.drop_append_of_le_length (by omega)]
   by_cases e:eO c n=p
   ·rw[if_pos e, if_pos e, hcome3 e, List.append_nil]
   ·rw[if_neg e, if_neg e, List.append_nil]
  ·rw[if_neg ht, if_neg ht, List.drop_zero]
   by_cases e:eO c n=p
   ·rw[if_pos e, if_pos e, hcome3 e, List.append_nil]
   ·rw[if_neg e, if_neg e, List.append_nil]
 unfold bD
 rw[show tab (cO c ⟨tab (cO c s w) c.procs.length, tab (dY c s w) c.chans.length⟩ (cQ p)) c.procs.length=tab (cO c s (fun q=>w q||cQ p q)) c.procs.length from iq e1,
  show tab (dY c ⟨tab (cO c s w) c.procs.length, tab (dY c s w) c.chans.length⟩ (cQ p)) c.chans.length=tab (dY c s (fun q=>w q||cQ p q)) c.chans.length from iq e2]
end
end Go.Proofs.YtckgpflobhpnpaaGreat
