/-
  What the walk of an unbounded run keeps; which inputs are valid; what Streams and Trace answer.
-/
import Derived.Test.YtckgpflobhpnpaaGreatQStD
namespace Go.Proofs.YtckgpflobhpnpaaGreat
open Go.RowKit
set_option linter.unusedVariables false
set_option linter.unusedSimpArgs false
structure KZ (c:Ci) (u:Uf):Prop where
 ps:∀p, p<c.procs.length→pU (bc c p) (u.s p)
 fv:∀n, n<c.chans.length→∀i, i<(u.l n).length→dt ((u.l n).getD i 0) (fT c n).w
 rd:∀n, n<c.chans.length→u.rd n≤(u.l n).length
section
variable {c:Ci} {u v:Uf} {p n k:Nat} {f:Fi} {inp:List (List Int)}
theorem oa (hc:a6 c) (h:KZ c u) (hp:p<c.procs.length):Ba (bc c p) (bS c u p) where
 l:=by rw[bS, ao]
 v:=fun i hi hh=>by
  rw[bS, aE hi]at hh ⊢
  unfold wW at hh ⊢
  split
  ·rename_i h0
   obtain⟨k1, k2, k3, k4⟩:=hc.tk p hp i hi
   have:=h.fv (mH (bc c p) i) (by show(lO (bc c p) i).chan.toNat<_;omega) _ h0
   rw[k3]at this
   exact this
  ·rename_i h0;rw[if_neg h0]at hh;cases hh
theorem zS (hc:a6 c) (hp:p<c.procs.length):(ie c p f n).length≤1:=by
 rw[ie, List.length_map];exact x4 hc hp n (Nat.le_refl _)
theorem GU (hc:a6 c) (h:KZ c u) (hp:p<c.procs.length) (hcan:ft c u p=true):KZ c (aj c u p) where
 ps:=fun q hq=>by
  show pU _ (if q=p then _ else u.s q)
  by_cases e:q=p
  ·rw[if_pos e, e];exact jH (hc.pr p hp) (h.ps p hp) (oa hc h hp)
  ·rw[if_neg e];exact h.ps q hq
 fv:=fun n hn i hi=>by
  have hl:(aj c u p).l n=u.l n++ie c p (fU c u p) n:=rfl
  rw[hl]at hi ⊢
  rw[rc]
  split
  ·rename_i h0;exact h.fv n hn i h0
  ·rename_i h0
   rw[List.length_append]at hi
   have hm:=j8 (d:=(0:Int)) (show i-(u.l n).length<(ie c p (fU c u p) n).length by omega)
   generalize (ie c p (fU c u p) n).getD _ 0=v at hm
   unfold ie at hm
   obtain⟨e, he, rfl⟩:=List.mem_map.1 hm
   obtain⟨h1, h2⟩:=List.mem_filter.1 he
   rw[beq_iff_eq]at h2
   obtain⟨j, j1, j2, j3, j4⟩:=ra h1
   have:=qT (rs:=ci c p) (hc.pr p hp) (h.ps p hp) (oa hc h hp) j1 j2
   rw[← (hc.pt p hp j j1).2.2.1, j3, h2]at this
   rw[← j4];exact this
 rd:=fun n hn=>by
  show u.rd n+jI c p (fU c u p) n≤(u.l n++ie c p (fU c u p) n).length
  rw[List.length_append]
  have h0:=h.rd n hn
  unfold jI
  split
  ·rename_i hm
   obtain⟨j, j1, j2, j3⟩:=nQ hm
   unfold ft fU at hcan
   rw[pW]at hcan
   have:=C3 hcan j1 j2
   rw[bS, aE j1]at this
   unfold wW at this
   split at this
   ·rename_i hlt;rw[j3]at hlt;omega
   ·cases this
  ·omega
def rE (c:Ci) (n:Nat) (u:Uf) (k:Nat):Bool:=decide (u.cnt k<n)&&ft c u k
def bk (c:Ci) (n:Nat) (u:Uf) (k:Nat):Fi:=if u.cnt k<n then fU c u k else ⟨false, bB, [], []⟩
theorem GV (h:n≤u.cnt k):bk c n u k=⟨false, bB, [], []⟩:=if_neg (by omega)
theorem yn (h:u.cnt k<n):bk c n u k=fU c u k:=if_pos h
theorem zT (h:n≤u.cnt k):rE c n u k=false:=by rw[rE, decide_eq_false (by omega)];rfl
theorem qa (h:u.cnt k<n):rE c n u k=ft c u k:=by rw[rE, decide_eq_true h];rfl
theorem vo (h:rE c n u k=true):u.cnt k<n∧ft c u k=true:=by
 unfold rE at h;simpa using h
structure UI (c:Ci) (inp:List (List Int)) (n:Nat) (u:Uf):Prop where
 run:∃m, kd c (u0 c inp) m∧u=cm c (u0 c inp) m
 cn:∀q, u.cnt q≤n
 ok:KZ c u
 ln:∀k, (u.l k).length+eP n u.cnt c.procs.length≤1000+n*c.procs.length
theorem Mp (hc:a6 c) (h:oX c inp):KZ c (u0 c inp) where
 ps:=fun p hp=>by
  show pU _ (if p<c.procs.length then _ else _)
  rw[if_pos hp];exact vn (hc.pr p hp)
 fv:=h.fv
 rd:=fun n hn=>Nat.zero_le _
theorem zU (hc:a6 c) (h:oX c inp) (n:Nat):UI c inp n (u0 c inp) where
 run:=⟨[], trivial, rfl⟩
 cn:=fun q=>Nat.zero_le _
 ok:=Mp hc h
 ln:=fun k=>by
  have:=h.sm k
  have:=yl n (u0 c inp).cnt c.procs.length
  show(inp.getD k []).length+_≤_
  omega
theorem mS (hp:p<c.procs.length) (h:rE c n u p=true):eP n (aj c u p).cnt c.procs.length+1=eP n u.cnt c.procs.length:=by
 have:=rj (vo h).1 c.procs.length
 rw[if_pos hp]at this
 exact this
theorem yo (hc:a6 c) (h:UI c inp n u) (hp:p<c.procs.length) (hcp:rE c n u p=true):UI c inp n (aj c u p) where
 run:=by
  obtain⟨m, h1, h2⟩:=h.run
  refine⟨m++[p], rf h1 ⟨hp, by rw[← h2];exact(vo hcp).2, trivial⟩, by rw[ke, ← h2];rfl⟩
 cn:=fun q=>by
  show(if q=p then u.cnt q+1 else u.cnt q)≤n
  have:=h.cn q
  have:=(vo hcp).1
  split
  ·rename_i e;rw[e];omega
  ·omega
 ok:=GU hc h.ok hp (vo hcp).2
 ln:=fun k=>by
  have h1:=h.ln k
  have h2:=mS hp hcp
  have h3:=zS (f:=fU c u p) (n:=k) hc hp
  show(u.l k++ie c p (fU c u p) k).length+_≤_
  rw[List.length_append]
  omega
theorem yp (h:UI c inp n u) (k:Nat):(u.l k).length≤1000+n*c.procs.length:=by have:=h.ln k;omega
theorem GW (hc:a6 c) (h:UI c inp n u) (he:∀p, p<c.procs.length→rE c n u p=false):u=dk c inp n:=by
 obtain⟨m, h1, h2⟩:=h.run
 have hcn:∀q, u.cnt q=m.count q:=fun q=>by rw[h2, gG];show 0+_=_;omega
 rw[h2]
 refine KV hc ⟨h1, fun q=>by rw[← hcn];exact h.cn q, fun p hp hcan=>?_⟩
 rw[← h2]at hcan
 have:=he p hp
 rw[← hcn]
 refine Nat.le_of_not_lt fun hlt=>?_
 rw[qa hlt, hcan]at this
 cases this
abbrev bi (c:Ci) (u:Uf):List (List Int):=tab u.l c.chans.length
abbrev df (c:Ci) (u:Uf):List Ps:=tab u.s c.procs.length
abbrev dR (c:Ci) (u:Uf):List Int:=tab (fun m=>(u.rd m:Int)) c.chans.length
abbrev bu (c:Ci) (u:Uf):List Int:=tab (fun q=>(u.cnt q:Int)) c.procs.length
theorem GX (hp:p<c.procs.length):(df c u).set p (fU c u p).s=df c (aj c u p):=by
 refine dW (d:=bB) (by simp[ao]) (fun i hi=>?_)
 rw[List.length_set, ao]at hi
 rw[c8 (by rw[ao];exact hp), aE hi, aE hi]
 show _=(if i=p then _ else u.s i)
 by_cases e:p=i
 ·rw[if_pos e, if_pos e.symm]
 ·rw[if_neg e, if_neg (fun q=>e q.symm)]
theorem Bx (hp:p<c.procs.length):(bu c u).set p ((u.cnt p:Int)+1)=bu c (aj c u p):=by
 refine dW (d:=(0:Int)) (by simp[ao]) (fun i hi=>?_)
 rw[List.length_set, ao]at hi
 rw[c8 (by rw[ao];exact hp), aE hi, aE hi]
 show _=(((if i=p then u.cnt i+1 else u.cnt i:Nat)):Int)
 by_cases e:p=i
 ·rw[if_pos e, if_pos e.symm, ← e];simp
 ·rw[if_neg e, if_neg (fun q=>e q.symm)]
def iZ (l:List Int) (ev:List Nat):List Int:=ev.foldl (fun l n=>l.set n (l.getD n 0+1)) l
theorem oc (ev:List Nat):∀(l:List Int), (iZ l ev).length=l.length:=by
 induction ev with
 | nil=>intro l;rfl
 | cons a r ih=>intro l;rw[iZ, List.foldl_cons];exact(ih _).trans (List.length_set ..)
theorem vp (l:List Int) (ev:List Nat) (n:Nat):iZ l (ev++[n])=(iZ l ev).set n ((iZ l ev).getD n 0+1):=by simp[iZ, List.foldl_append]
theorem w3 (ev:List Nat):∀(l:List Int) (n:Nat), n<l.length→(iZ l ev).getD n 0=l.getD n 0+(ev.count n:Int):=by
 induction ev with
 | nil=>intro l n hn;show l.getD n 0=_;simp
 | cons a r ih =>
  intro l n hn
  rw[iZ, List.foldl_cons]
  refine(ih _ n (by rw[List.length_set];exact hn)).trans ?_
  rw[List.count_cons]
  by_cases e:a=n
  ·subst e;rw[c8 hn, if_pos rfl];simp;omega
  ·rw[show(l.set a (l.getD a 0+1)).getD n 0=l.getD n 0 by simp[List.getD, List.getElem?_set, e]]
   have:(a==n)=false:=beq_eq_false_iff_ne.2 e
   rw[this];simp
theorem Bz (hc:a6 c) (hp:p<c.procs.length):iZ (dR c u) (kU (bc c p) (fU c u p) (bc c p).takes.length)=dR c (aj c u p):=by
 refine dW (d:=(0:Int)) (by rw[oc, ao, ao]) (fun i hi=>?_)
 rw[oc, ao]at hi
 rw[w3 _ _ _ (by rw[ao];exact hi), aE hi, aE hi, j7 hc i hp (Nat.le_refl _)]
 show _=((u.rd i+jI c p (fU c u p) i:Nat):Int)
 unfold jI
 split<;>simp
theorem JB (hc:a6 c) (hp:p<c.procs.length) (hk:k≤(bc c p).takes.length) (hn:n<c.chans.length):0≤(iZ (dR c u) (kU (bc c p) f k)).getD n 0∧(iZ (dR c u) (kU (bc c p) f k)).getD n 0≤u.rd n+1:=by
 rw[w3 _ _ _ (by rw[ao];exact hn), aE hn, j7 hc n hp hk]
 split<;>constructor<;>simp<;>omega
theorem yq (hc:a6 c) (hp:p<c.procs.length):bz (bi c u) (mI (bc c p) (fU c u p) (bc c p).puts.length)=bi c (aj c u p):=by
 refine dW (d:=[]) (by rw[cP, ao, ao]) (fun i hi=>?_)
 rw[cP, ao]at hi
 rw[mK _ _ _ (by rw[ao];exact hi), aE hi, aE hi]
 rfl
theorem GY (hn:n<c.chans.length):((bz (bi c u) (mI (bc c p) f k)).getD n []).length≤(u.l n).length+k:=by
 have h1:=Da (mI (bc c p) f k) (bi c u) n (by rw[ao];exact hn)
 rw[aE hn]at h1
 exact Nat.le_trans h1 (Nat.add_le_add_left tN _)
def vN (c:Ci) (inp:List (List Int)) (n:Nat):Bool:=decide ((inp.getD n []).length≤1000)&&((decide ((inp.getD n []).length=0)||decide ((fT c n).frm=-1))&&zE (inp.getD n []) (fT c n).w)
def d4 (c:Ci) (inp:List (List Int)):Bool:=decide (inp.length=c.chans.length)&&dF (vN c inp) c.chans.length
theorem dP:d4 c inp=true↔oX c inp:=by
 unfold d4 vN
 simp only[Bool.and_eq_true, decide_eq_true_eq, cf, Bool.or_eq_true, Gf]
 constructor
 ·rintro⟨h1, h2⟩
  refine⟨h1, fun n hn hf=>?_, fun n hn=>(h2 n hn).2.2, fun n=>?_⟩
  ·rcases(h2 n hn).2.1 with h | h
   ·exact List.eq_nil_of_length_eq_zero h
   ·exact absurd h hf
  ·by_cases hn:n<c.chans.length
   ·exact(h2 n hn).1
   ·rw[List.getD_eq_getElem?_getD, List.getElem?_eq_none (by omega)];simp
 ·rintro⟨h1, h2, h3, h4⟩
  refine⟨h1, fun n hn=>⟨h4 n, ?_, h3 n hn⟩⟩
  by_cases hf:(fT c n).frm=-1
  ·exact .inr hf
  ·exact .inl (by rw[h2 n hn hf];rfl)
def eR (c:Ci) (inp:List (List Int)) (n:Int):List (List Int)×List Int×Int:=if d4 c inp=true∧0≤n∧n≤100 then (bi c (dk c inp n.toNat), bu c (dk c inp n.toNat), 0)else ([], [], 1)
theorem rk {k:Int} (h:¬(d4 c inp=true∧0≤k∧k≤100)):eR c inp k=([], [], 1):=if_neg h
theorem kg {k:Int} (h:d4 c inp=true) (h2:0≤k∧k≤100):eR c inp k=(bi c (dk c inp k.toNat), bu c (dk c inp k.toNat), 0):=if_pos ⟨h, h2⟩
def BA (c:Ci) (inp:List (List Int)) (cls:List ByteArray):Uf:=cm c (u0 c inp) (gU c (HB c inp) (cls.map (bh c)))
def gV (c:Ci) (inp:List (List Int)) (cls:List ByteArray):List (List Int)×List Int×Int:=if d4 c inp=true∧cls.length≤100 then (bi c (BA c inp cls), bu c (BA c inp cls), 0)else ([], [], 1)
theorem tR {cls:List ByteArray} (h:¬(d4 c inp=true∧cls.length≤100)):gV c inp cls=([], [], 1):=if_neg h
theorem mU {cls:List ByteArray} (h:d4 c inp=true) (h2:cls.length≤100):gV c inp cls=(bi c (BA c inp cls), bu c (BA c inp cls), 0):=if_pos ⟨h, h2⟩
end
section
variable {a b:List (List Int)} {i:Nat} {c:Ci} {n:Nat} {inp:List (List Int)}
theorem oe (h:¬a.length=b.length):fc a b=false:=by rw[fc, decide_eq_false h];rfl
theorem og (hi:i<a.length) (h:dm (a.getD i []) (b.getD i [])<(a.getD i []).length):fc a b=false:=by
 rw[fc, kQ hi (by rw[decide_eq_true h];rfl), Bool.and_false]
theorem oh (h:a.length=b.length) (h2:∀q, q<a.length→(!decide (dm (a.getD q []) (b.getD q [])<(a.getD q []).length))=true):fc a b=true:=by
 rw[fc, decide_eq_true h, cf.2 h2];rfl
theorem K0 (hi:i<min a.length b.length) (h:¬dm (a.getD i []) (b.getD i [])<min (a.getD i []).length (b.getD i []).length):tj a b (min a.length b.length-i) i=tj a b (min a.length b.length-(i+1)) (i+1):=by
 rw[show min a.length b.length-i=min a.length b.length-(i+1)+1 by omega, tj, if_neg h]
theorem Dj (hi:i<min a.length b.length) (h:dm (a.getD i []) (b.getD i [])<min (a.getD i []).length (b.getD i []).length):tj a b (min a.length b.length-i) i=((i:Int), (dm (a.getD i []) (b.getD i []):Int), true):=by
 rw[show min a.length b.length-i=min a.length b.length-(i+1)+1 by omega, tj, if_pos h]
theorem Dk (hi:min a.length b.length≤i):tj a b (min a.length b.length-i) i=(0, 0, false):=by
 rw[show min a.length b.length-i=0 by omega];rfl
theorem JC (h1:(inp.getD n []).length≤1000) (h2:(inp.getD n []).length=0∨(fT c n).frm=-1) (h3:(!decide (0≤th (inp.getD n []) (fT c n).w))=true):vN c inp n=true:=by
 rw[wS]at h3
 unfold vN
 rw[h3, decide_eq_true h1, Bool.and_true, Bool.true_and]
 rcases h2 with h2 | h2
 ·rw[decide_eq_true h2, Bool.true_or]
 ·rw[decide_eq_true h2, Bool.or_true]
theorem oi (h:¬inp.length=c.chans.length):d4 c inp=false:=by rw[d4, decide_eq_false h];rfl
theorem BB (hn:n<c.chans.length) (h:vN c inp n=false):d4 c inp=false:=by rw[d4, kQ hn h, Bool.and_false]
theorem ol (hn:n<c.chans.length) (h:¬(inp.getD n []).length≤1000):d4 c inp=false:=BB hn (by unfold vN;rw[decide_eq_false h];rfl)
theorem oo (hn:n<c.chans.length) (h:¬(inp.getD n []).length=0) (h2:¬(fT c n).frm=-1):d4 c inp=false:=BB hn (by unfold vN;rw[decide_eq_false h, decide_eq_false h2];simp)
theorem oq (hn:n<c.chans.length) (h:decide (0≤th (inp.getD n []) (fT c n).w)=true):d4 c inp=false:=BB hn (by unfold vN;rw[← wS, h];simp)
theorem ot (h:inp.length=c.chans.length) (h2:∀z, z<c.chans.length→vN c inp z=true):d4 c inp=true:=by rw[d4, decide_eq_true h, cf.2 h2];rfl
end
end Go.Proofs.YtckgpflobhpnpaaGreat
