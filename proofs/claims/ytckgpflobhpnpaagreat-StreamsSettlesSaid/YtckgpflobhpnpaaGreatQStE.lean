/-
  What the walk of an unbounded run keeps; which inputs are valid; what Streams and Trace answer.
-/
import Derived.Test.YtckgpflobhpnpaaGreatQStD
namespace Go.Proofs.YtckgpflobhpnpaaGreat
open Go.RowKit
set_option linter.unusedVariables false
set_option linter.unusedSimpArgs false
structure OT (c:Ci) (u:Uf):Prop where
 ps:∀p, p<c.procs.length→qI (bj c p) (u.s p)
 fv:∀n, n<c.chans.length→∀i, i<(u.l n).length→dV ((u.l n).getD i 0) (cH c n).w
 rd:∀n, n<c.chans.length→u.rd n≤(u.l n).length
section
variable {c:Ci} {u v:Uf} {p n k:Nat} {f:Fi} {inp:List (List Int)}
theorem vn (hc:a8 c) (h:OT c u) (hp:p<c.procs.length):CR (bj c p) (xp c u p) where
 l:=by rw[xp, aq]
 v:=fun i hi hh=>by
  rw[xp, aC hi]at hh ⊢
  unfold Nl at hh ⊢
  split
  ·rename_i h0
   obtain⟨k1, k2, k3, k4⟩:=hc.tk p hp i hi
   have:=h.fv (nP (bj c p) i) (by show(mY (bj c p) i).chan.toNat<_;omega) _ h0
   rw[k3]at this
   exact this
  ·rename_i h0;rw[if_neg h0]at hh;cases hh
theorem BD (hc:a8 c) (hp:p<c.procs.length):(iA c p f n).length≤1:=by
 rw[iA, List.length_map];exact zC hc hp n (Nat.le_refl _)
theorem Je (hc:a8 c) (h:OT c u) (hp:p<c.procs.length) (hcan:iB c u p=true):OT c (ao c u p) where
 ps:=fun q hq=>by
  show qI _ (if q=p then _ else u.s q)
  by_cases e:q=p
  ·rw[if_pos e, e];exact qe (hc.pr p hp) (h.ps p hp) (vn hc h hp)
  ·rw[if_neg e];exact h.ps q hq
 fv:=fun n hn i hi=>by
  have hl:(ao c u p).l n=u.l n++iA c p (ge c u p) n:=rfl
  rw[hl]at hi ⊢
  rw[sg]
  split
  ·rename_i h0;exact h.fv n hn i h0
  ·rename_i h0
   rw[List.length_append]at hi
   have hm:=kL (d:=(0:Int)) (show i-(u.l n).length<(iA c p (ge c u p) n).length by omega)
   generalize (iA c p (ge c u p) n).getD _ 0=v at hm
   unfold iA at hm
   obtain⟨e, he, rfl⟩:=List.mem_map.1 hm
   obtain⟨h1, h2⟩:=List.mem_filter.1 he
   rw[beq_iff_eq]at h2
   obtain⟨j, j1, j2, j3, j4⟩:=sd h1
   have:=rX (rs:=Dp c p) (hc.pr p hp) (h.ps p hp) (vn hc h hp) j1 j2
   rw[← (hc.pt p hp j j1).2.2.1, j3, h2]at this
   rw[← j4];exact this
 rd:=fun n hn=>by
  show u.rd n+jn c p (ge c u p) n≤(u.l n++iA c p (ge c u p) n).length
  rw[List.length_append]
  have h0:=h.rd n hn
  unfold jn
  split
  ·rename_i hm
   obtain⟨j, j1, j2, j3⟩:=o6 hm
   unfold iB ge at hcan
   rw[lQ]at hcan
   have:=EU hcan j1 j2
   rw[xp, aC j1]at this
   unfold Nl at this
   split at this
   ·rename_i hlt;rw[j3]at hlt;omega
   ·cases this
  ·omega
def wU (c:Ci) (n:Nat) (u:Uf) (k:Nat):Bool:=decide (u.cnt k<n)&&iB c u k
def bv (c:Ci) (n:Nat) (u:Uf) (k:Nat):Fi:=if u.cnt k<n then ge c u k else ⟨false, bI, [], []⟩
theorem Jf (h:n≤u.cnt k):bv c n u k=⟨false, bI, [], []⟩:=if_neg (by omega)
theorem zZ (h:u.cnt k<n):bv c n u k=ge c u k:=if_pos h
theorem Fj (h:n≤u.cnt k):wU c n u k=false:=by rw[wU, decide_eq_false (by omega)];rfl
theorem wV (h:u.cnt k<n):wU c n u k=iB c u k:=by rw[wU, decide_eq_true h];rfl
theorem wW (h:wU c n u k=true):u.cnt k<n∧iB c u k=true:=by
 unfold wU at h;simpa using h
structure UI (c:Ci) (inp:List (List Int)) (n:Nat) (u:Uf):Prop where
 run:∃m, jo c (u0 c inp) m∧u=b9 c (u0 c inp) m
 cn:∀q, u.cnt q≤n
 ok:OT c u
 ln:∀k, (u.l k).length+hC n u.cnt c.procs.length≤1000+n*c.procs.length
theorem OU (hc:a8 c) (h:jI c inp):OT c (u0 c inp) where
 ps:=fun p hp=>by
  show qI _ (if p<c.procs.length then _ else _)
  rw[if_pos hp];exact BA (hc.pr p hp)
 fv:=h.fv
 rd:=fun n hn=>Nat.zero_le _
theorem Jg (hc:a8 c) (h:jI c inp) (n:Nat):UI c inp n (u0 c inp) where
 run:=⟨[], trivial, rfl⟩
 cn:=fun q=>Nat.zero_le _
 ok:=OU hc h
 ln:=fun k=>by
  have:=h.sm k
  have:=Du n (u0 c inp).cnt c.procs.length
  show(inp.getD k []).length+_≤_
  omega
theorem sy (hp:p<c.procs.length) (h:wU c n u p=true):hC n (ao c u p).cnt c.procs.length+1=hC n u.cnt c.procs.length:=by
 have:=sx (wW h).1 c.procs.length
 rw[if_pos hp]at this
 exact this
theorem Fk (hc:a8 c) (h:UI c inp n u) (hp:p<c.procs.length) (hcp:wU c n u p=true):UI c inp n (ao c u p) where
 run:=by
  obtain⟨m, h1, h2⟩:=h.run
  refine⟨m++[p], sq h1 ⟨hp, by rw[← h2];exact(wW hcp).2, trivial⟩, by rw[kT, ← h2];rfl⟩
 cn:=fun q=>by
  show(if q=p then u.cnt q+1 else u.cnt q)≤n
  have:=h.cn q
  have:=(wW hcp).1
  split
  ·rename_i e;rw[e];omega
  ·omega
 ok:=Je hc h.ok hp (wW hcp).2
 ln:=fun k=>by
  have h1:=h.ln k
  have h2:=sy hp hcp
  have h3:=BD (f:=ge c u p) (n:=k) hc hp
  show(u.l k++iA c p (ge c u p) k).length+_≤_
  rw[List.length_append]
  omega
theorem Jh (h:UI c inp n u) (k:Nat):(u.l k).length≤1000+n*c.procs.length:=by have:=h.ln k;omega
theorem Nt (hc:a8 c) (h:UI c inp n u) (he:∀p, p<c.procs.length→wU c n u p=false):u=cj c inp n:=by
 obtain⟨m, h1, h2⟩:=h.run
 have hcn:∀q, u.cnt q=m.count q:=fun q=>by rw[h2, eT];show 0+_=_;omega
 rw[h2]
 refine I8 hc ⟨h1, fun q=>by rw[← hcn];exact h.cn q, fun p hp hcan=>?_⟩
 rw[← h2]at hcan
 have:=he p hp
 rw[← hcn]
 refine Nat.le_of_not_lt fun hlt=>?_
 rw[wV hlt, hcan]at this
 cases this
abbrev ca (c:Ci) (u:Uf):List (List Int):=tab u.l c.chans.length
abbrev jE (c:Ci) (u:Uf):List Ps:=tab u.s c.procs.length
abbrev kv (c:Ci) (u:Uf):List Int:=tab (fun m=>(u.rd m:Int)) c.chans.length
abbrev dD (c:Ci) (u:Uf):List Int:=tab (fun q=>(u.cnt q:Int)) c.procs.length
theorem Nu (hp:p<c.procs.length):(jE c u).set p (ge c u p).s=jE c (ao c u p):=by
 refine dt (d:=bI) (by simp[aq]) (fun i hi=>?_)
 rw[List.length_set, aq]at hi
 rw[cu (by rw[aq];exact hp), aC hi, aC hi]
 show _=(if i=p then _ else u.s i)
 by_cases e:p=i
 ·rw[if_pos e, if_pos e.symm]
 ·rw[if_neg e, if_neg (fun q=>e q.symm)]
theorem Ji (hp:p<c.procs.length):(dD c u).set p ((u.cnt p:Int)+1)=dD c (ao c u p):=by
 refine dt (d:=(0:Int)) (by simp[aq]) (fun i hi=>?_)
 rw[List.length_set, aq]at hi
 rw[cu (by rw[aq];exact hp), aC hi, aC hi]
 show _=(((if i=p then u.cnt i+1 else u.cnt i:Nat)):Int)
 by_cases e:p=i
 ·rw[if_pos e, if_pos e.symm, ← e];simp
 ·rw[if_neg e, if_neg (fun q=>e q.symm)]
def kU (l:List Int) (ev:List Nat):List Int:=ev.foldl (fun l n=>l.set n (l.getD n 0+1)) l
theorem tL (ev:List Nat):∀(l:List Int), (kU l ev).length=l.length:=by
 induction ev with
 | nil=>intro l;rfl
 | cons a r ih=>intro l;rw[kU, List.foldl_cons];exact(ih _).trans (List.length_set ..)
theorem Dy (l:List Int) (ev:List Nat) (n:Nat):kU l (ev++[n])=(kU l ev).set n ((kU l ev).getD n 0+1):=by simp[kU, List.foldl_append]
theorem yE (ev:List Nat):∀(l:List Int) (n:Nat), n<l.length→(kU l ev).getD n 0=l.getD n 0+(ev.count n:Int):=by
 induction ev with
 | nil=>intro l n hn;show l.getD n 0=_;simp
 | cons a r ih =>
  intro l n hn
  rw[kU, List.foldl_cons]
  refine(ih _ n (by rw[List.length_set];exact hn)).trans ?_
  rw[List.count_cons]
  by_cases e:a=n
  ·subst e;rw[cu hn, if_pos rfl];simp;omega
  ·rw[show(l.set a (l.getD a 0+1)).getD n 0=l.getD n 0 by simp[List.getD, List.getElem?_set, e]]
   have:(a==n)=false:=beq_eq_false_iff_ne.2 e
   rw[this];simp
theorem Nv (hc:a8 c) (hp:p<c.procs.length):kU (kv c u) (ku (bj c p) (ge c u p) (bj c p).takes.length)=kv c (ao c u p):=by
 refine dt (d:=(0:Int)) (by rw[tL, aq, aq]) (fun i hi=>?_)
 rw[tL, aq]at hi
 rw[yE _ _ _ (by rw[aq];exact hi), aC hi, aC hi, kK hc i hp (Nat.le_refl _)]
 show _=((u.rd i+jn c p (ge c u p) i:Nat):Int)
 unfold jn
 split<;>simp
theorem OV (hc:a8 c) (hp:p<c.procs.length) (hk:k≤(bj c p).takes.length) (hn:n<c.chans.length):0≤(kU (kv c u) (ku (bj c p) f k)).getD n 0∧(kU (kv c u) (ku (bj c p) f k)).getD n 0≤u.rd n+1:=by
 rw[yE _ _ _ (by rw[aq];exact hn), aC hn, kK hc n hp hk]
 split<;>constructor<;>simp<;>omega
theorem Jj (hc:a8 c) (hp:p<c.procs.length):bq (ca c u) (mO (bj c p) (ge c u p) (bj c p).puts.length)=ca c (ao c u p):=by
 refine dt (d:=[]) (by rw[cM, aq, aq]) (fun i hi=>?_)
 rw[cM, aq]at hi
 rw[nU _ _ _ (by rw[aq];exact hi), aC hi, aC hi]
 rfl
theorem L4 (hn:n<c.chans.length):((bq (ca c u) (mO (bj c p) f k)).getD n []).length≤(u.l n).length+k:=by
 have h1:=E5 (mO (bj c p) f k) (ca c u) n (by rw[aq];exact hn)
 rw[aC hn]at h1
 exact Nat.le_trans h1 (Nat.add_le_add_left vg _)
def xr (c:Ci) (inp:List (List Int)) (n:Nat):Bool:=decide ((inp.getD n []).length≤1000)&&((decide ((inp.getD n []).length=0)||decide ((cH c n).frm=-1))&&di (inp.getD n []) (cH c n).w)
def ew (c:Ci) (inp:List (List Int)):Bool:=decide (inp.length=c.chans.length)&&dG (xr c inp) c.chans.length
theorem en:ew c inp=true↔jI c inp:=by
 unfold ew xr
 simp only[Bool.and_eq_true, decide_eq_true_eq, bL, Bool.or_eq_true, Bf]
 constructor
 ·rintro⟨h1, h2⟩
  refine⟨h1, fun n hn hf=>?_, fun n hn=>(h2 n hn).2.2, fun n=>?_⟩
  ·rcases(h2 n hn).2.1 with h | h
   ·exact List.eq_nil_of_length_eq_zero h
   ·exact absurd h hf
  ·by_cases hn:n<c.chans.length
   ·exact(h2 n hn).1
   ·rw[List.getD_eq_getElem?_getD, List.getElem?_eq_none (by omega)];simp
 ·rintro⟨h1, h2, h3, h4⟩
  refine⟨h1, fun n hn=>⟨h4 n, ?_, h3 n hn⟩⟩
  by_cases hf:(cH c n).frm=-1
  ·exact .inr hf
  ·exact .inl (by rw[h2 n hn hf];rfl)
def fe (c:Ci) (inp:List (List Int)) (n:Int):List (List Int)×List Int×Int:=if ew c inp=true∧0≤n∧n≤100 then (ca c (cj c inp n.toNat), dD c (cj c inp n.toNat), 0)else ([], [], 1)
theorem sA {k:Int} (h:¬(ew c inp=true∧0≤k∧k≤100)):fe c inp k=([], [], 1):=if_neg h
theorem kV {k:Int} (h:ew c inp=true) (h2:0≤k∧k≤100):fe c inp k=(ca c (cj c inp k.toNat), dD c (cj c inp k.toNat), 0):=if_pos ⟨h, h2⟩
def Dz (c:Ci) (inp:List (List Int)) (cls:List ByteArray):Uf:=b9 c (u0 c inp) (ij c (dg c inp) (cls.map (br c)))
def ik (c:Ci) (inp:List (List Int)) (cls:List ByteArray):List (List Int)×List Int×Int:=if ew c inp=true∧cls.length≤100 then (ca c (Dz c inp cls), dD c (Dz c inp cls), 0)else ([], [], 1)
theorem vo {cls:List ByteArray} (h:¬(ew c inp=true∧cls.length≤100)):ik c inp cls=([], [], 1):=if_neg h
theorem og {cls:List ByteArray} (h:ew c inp=true) (h2:cls.length≤100):ik c inp cls=(ca c (Dz c inp cls), dD c (Dz c inp cls), 0):=if_pos ⟨h, h2⟩
end
section
variable {a b:List (List Int)} {i:Nat} {c:Ci} {n:Nat} {inp:List (List Int)}
theorem pm (h:¬a.length=b.length):eK a b=false:=by rw[eK, decide_eq_false h];rfl
theorem pn (hi:i<a.length) (h:dP (a.getD i []) (b.getD i [])<(a.getD i []).length):eK a b=false:=by
 rw[eK, fI hi (by rw[decide_eq_true h];rfl), Bool.and_false]
theorem po (h:a.length=b.length) (h2:∀q, q<a.length→(!decide (dP (a.getD q []) (b.getD q [])<(a.getD q []).length))=true):eK a b=true:=by
 rw[eK, decide_eq_true h, bL.2 h2];rfl
theorem Nw (hi:i<min a.length b.length) (h:¬dP (a.getD i []) (b.getD i [])<min (a.getD i []).length (b.getD i []).length):uK a b (min a.length b.length-i) i=uK a b (min a.length b.length-(i+1)) (i+1):=by
 rw[show min a.length b.length-i=min a.length b.length-(i+1)+1 by omega, uK, if_neg h]
theorem Fl (hi:i<min a.length b.length) (h:dP (a.getD i []) (b.getD i [])<min (a.getD i []).length (b.getD i []).length):uK a b (min a.length b.length-i) i=((i:Int), (dP (a.getD i []) (b.getD i []):Int), true):=by
 rw[show min a.length b.length-i=min a.length b.length-(i+1)+1 by omega, uK, if_pos h]
theorem Fm (hi:min a.length b.length≤i):uK a b (min a.length b.length-i) i=(0, 0, false):=by
 rw[show min a.length b.length-i=0 by omega];rfl
theorem L5 (h1:(inp.getD n []).length≤1000) (h2:(inp.getD n []).length=0∨(cH c n).frm=-1) (h3:(!decide (0≤l5 (inp.getD n []) (cH c n).w))=true):xr c inp n=true:=by
 rw[ts]at h3
 unfold xr
 rw[h3, decide_eq_true h1, Bool.and_true, Bool.true_and]
 rcases h2 with h2 | h2
 ·rw[decide_eq_true h2, Bool.true_or]
 ·rw[decide_eq_true h2, Bool.or_true]
theorem pp (h:¬inp.length=c.chans.length):ew c inp=false:=by rw[ew, decide_eq_false h];rfl
theorem DA (hn:n<c.chans.length) (h:xr c inp n=false):ew c inp=false:=by rw[ew, fI hn h, Bool.and_false]
theorem pu (hn:n<c.chans.length) (h:¬(inp.getD n []).length≤1000):ew c inp=false:=DA hn (by unfold xr;rw[decide_eq_false h];rfl)
theorem px (hn:n<c.chans.length) (h:¬(inp.getD n []).length=0) (h2:¬(cH c n).frm=-1):ew c inp=false:=DA hn (by unfold xr;rw[decide_eq_false h, decide_eq_false h2];simp)
theorem py (hn:n<c.chans.length) (h:decide (0≤l5 (inp.getD n []) (cH c n).w)=true):ew c inp=false:=DA hn (by unfold xr;rw[← ts, h];simp)
theorem pz (h:inp.length=c.chans.length) (h2:∀z, z<c.chans.length→xr c inp z=true):ew c inp=true:=by rw[ew, decide_eq_true h, bL.2 h2];rfl
end
end Go.Proofs.YtckgpflobhpnpaaGreat
