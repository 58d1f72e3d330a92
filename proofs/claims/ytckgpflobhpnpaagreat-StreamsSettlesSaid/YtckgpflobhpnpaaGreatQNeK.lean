/-
  Circuits, plain data: what the reference's loops compute.
-/
import Derived.Test.YtckgpflobhpnpaaGreatQStA
import Derived.Test.YtckgpflobhpnpaaGreatQNeH
namespace Go.Proofs.YtckgpflobhpnpaaGreat
open Go.RowKit
set_option linter.unusedVariables false
set_option linter.unusedSimpArgs false
structure NU (c:Ci) (s:Ns) (u:Uf):Prop where
 ps:∀p, p<c.procs.length→zB s p=u.s p
 wd:∀n, n<c.chans.length→lU s n=(u.l n).drop (u.rd n)
 le:∀n, n<c.chans.length→u.rd n≤(u.l n).length
section
variable {c:Ci} {s:Ns} {u:Uf} {p n:Nat} {w:Nat→Bool}
theorem Bt (hc:a8 c) (h:NU c s u) (hp:p<c.procs.length):gz c s p=xp c u p:=by
 unfold gz xp
 refine iL fun j hj=>?_
 have hn:=LU hc hp hj
 unfold de Nl
 rw[h.wd _ hn, List.length_drop]
 have hle:=h.le _ hn
 by_cases hlt:u.rd (nP (bj c p) j)<(u.l (nP (bj c p) j)).length
 ·rw[if_pos hlt, if_pos (by omega), yo];rfl
 ·rw[if_neg hlt, if_neg (by omega)]
theorem zP (hc:a8 c) (h:NU c s u) (hp:p<c.procs.length) (hcan:dj c s p=true):ge c u p=ab c s p:=by
 rw[qL]at hcan
 unfold ge ab
 rw[← Bt hc h hp, ← h.ps p hp]
 refine o8 (hc.pr p hp) hcan (fun j hj hh=>rfl) (fun j hj _=>?_)
 unfold Dp
 rw[d9 _ _ (by rw[List.length_replicate];exact hj), List.getElem_replicate]
theorem IW (hc:a8 c) (h:NU c s u) (hp:p<c.procs.length) (hcan:dj c s p=true):iB c u p=true:=by
 unfold iB;rw[zP hc h hp hcan];exact hcan
theorem IY (hc:a8 c) (hp:p<c.procs.length) (hcan:dj c s p=true):eu c s (cm p) n=jn c p (ab c s p) n:=by
 unfold eu jn
 by_cases hm:n∈ku (bj c p) (ab c s p) (bj c p).takes.length
 ·have hd:=(u9 hc hp (Nat.le_refl _) hm).2
  have hdn:ie c n=p:=by unfold ie;rw[hd];rfl
  rw[if_pos hm, hdn, if_pos]
  refine⟨?_, ?_⟩
  ·unfold ax;rw[kM, hcan];rfl
  ·unfold eJ;exact decide_eq_true hm
 ·rw[if_neg hm, if_neg]
  rintro⟨h1, h2⟩
  have he:ie c n=p:=by
   unfold ax cm at h1
   rw[Bool.and_eq_true]at h1
   exact of_decide_eq_true h1.1
  rw[he]at h2
  exact hm (of_decide_eq_true h2)
theorem IZ (hc:a8 c) (hp:p<c.procs.length) (hcan:dj c s p=true):cP c s (cm p) n=iA c p (ab c s p) n:=by
 unfold cP
 by_cases he:fb c n=p
 ·rw[he, if_pos (by unfold ax;rw[kM, hcan];rfl)];rfl
 ·rw[if_neg (by unfold ax;rw[vd he];simp)]
  refine(Classical.byContradiction fun hh=>?_:[]=_)
  have:=wO hc hp (n:=n) (f:=ab c s p) (fun e=>hh e.symm)
  apply he
  unfold fb;rw[this];rfl
theorem Bu (hc:a8 c) (h:NU c s u) (hp:p<c.procs.length) (hcan:dj c s p=true) (hn:n<c.chans.length):jn c p (ab c s p) n≤(lU s n).length:=by
 unfold jn
 split
 ·rename_i hm
  exact yn hcan (decide_eq_true hm)
 ·exact Nat.zero_le _
theorem I0 (hc:a8 c) (h:NU c s u) (hp:p<c.procs.length) (hcan:dj c s p=true):NU c (bf c s (cm p)) (ao c u p):=by
 have hst:=zP hc h hp hcan
 refine⟨fun q hq=>?_, fun m hm=>?_, fun m hm=>?_⟩
 ·rw[nX c s _ hq]
  show cF c s (cm p) q=if q=p then (ge c u p).s else u.s q
  unfold cF ax
  by_cases e:q=p
  ·subst e;rw[kM, hcan, if_pos (by rfl), if_pos rfl, hst]
  ·rw[vd e, if_neg e];exact h.ps q hq
 ·rw[gY c s _ hm]
  unfold eh
  rw[IY hc hp hcan, IZ hc hp hcan, h.wd m hm, List.drop_drop]
  show _=(u.l m++iA c p (ge c u p) m).drop (u.rd m+jn c p (ge c u p) m)
  rw[hst]
  have h1:=Bu hc h hp hcan hm
  rw[h.wd m hm, List.length_drop]at h1
  have h2:=h.le m hm
  rw[List.drop_append_of_le_length (by omega)]
 ·show u.rd m+jn c p (ge c u p) m≤(u.l m++iA c p (ge c u p) m).length
  rw[hst, List.length_append]
  have h1:=Bu hc h hp hcan hm
  rw[h.wd m hm, List.length_drop]at h1
  have h2:=h.le m hm
  omega
def kk (c:Ci) (s:Ns) (w:Nat→Bool) (P:Nat):List Nat:=(List.range P).filter (ax c s w)
theorem ur (q:Nat):∀P, (List.range P).count q=if q<P then 1 else 0
 | 0=>by simp
 | P+1=>by
  rw[List.range_succ, List.count_append, ur q P, List.count_cons, List.count_nil]
  by_cases e:P=q
  ·subst e;simp
  ·have e2:(P==q)=false:=beq_eq_false_iff_ne.2 e
   rw[e2, if_neg (show ¬(false=true) by simp)]
   by_cases g:q<P
   ·rw[if_pos g, if_pos (by omega)]
   ·rw[if_neg g, if_neg (by omega)]
theorem yz (c:Ci) (s:Ns) (w:Nat→Bool) (q P:Nat):(kk c s w P).count q=if q<P∧ax c s w q=true then 1 else 0:=by
 unfold kk
 by_cases hf:ax c s w q=true
 ·rw[List.count_filter hf, ur]
  by_cases g:q<P
  ·rw[if_pos g, if_pos ⟨g, hf⟩]
  ·rw[if_neg g, if_neg (fun h=>g h.1)]
 ·rw[if_neg (fun h=>hf h.2)]
  exact List.count_eq_zero.2 (fun hm=>hf (List.mem_filter.1 hm).2)
theorem I1 (hc:a8 c) (hP:n<c.procs.length):bf c s (ig w (n+1))=if ax c s w n=true then bf c (bf c s (ig w n)) (cm n)else bf c s (ig w n):=by
 split
 ·rename_i hf
  obtain⟨hw, hcan⟩:=iT hf
  have hu:ig w n n=false:=by unfold ig;simp
  rw[KX hc hP hcan hu]
  refine yp (fun q=>?_)
  unfold ax ig cm
  by_cases e:q=n
  ·subst e;simp[hw]
  ·have:decide (q<n+1)=decide (q<n):=by simp only[decide_eq_decide];omega
   rw[this];simp[e]
 ·rename_i hf
  refine yp (fun q=>?_)
  by_cases e:q=n
  ·subst e
   have h1:ax c s (ig w (q+1)) q=false:=by
    unfold ax ig
    unfold ax at hf
    simp only[Bool.and_eq_true, not_and, Bool.not_eq_true]at hf
    cases hw:w q
    ·simp
    ·simp[hf hw]
   rw[h1];unfold ax ig;simp
  ·unfold ax ig
   have:decide (q<n+1)=decide (q<n):=by simp only[decide_eq_decide];omega
   rw[this]
theorem vj (hc:a8 c) (hs:fa c s) (h:NU c s u) (w:Nat→Bool):∀P, P≤c.procs.length→jo c u (kk c s w P)∧NU c (bf c s (ig w P)) (b9 c u (kk c s w P))∧∀p, p<P→ax c s w p=true→ge c (b9 c u (kk c s w p)) p=ab c s p
 | 0, _=>by
  rw[Ij hs (fun p hp=>by unfold ax ig;simp)]
  exact⟨trivial, h, fun p hp=>by omega⟩
 | P+1, hP=>by
  obtain⟨a, b, d⟩:=vj hc hs h w P (by omega)
  have e:kk c s w (P+1)=kk c s w P++(if ax c s w P=true then [P]else []):=by
   unfold kk
   rw[List.range_succ, List.filter_append]
   split
   ·rename_i hf;rw[List.filter_cons_of_pos hf, List.filter_nil]
   ·rename_i hf;rw[List.filter_cons_of_neg hf, List.filter_nil]
  rw[e, I1 hc (by omega)]
  by_cases hf:ax c s w P=true
  ·rw[if_pos hf, if_pos hf]
   obtain⟨hw, hcan⟩:=iT hf
   have hu:ig w P P=false:=by unfold ig;simp
   have hcan2:=KY hc (show P<c.procs.length by omega) hcan hu
   have hst:=wB hc (show P<c.procs.length by omega) hcan hu
   have hk:=I0 hc b (show P<c.procs.length by omega) hcan2
   refine⟨sq a ⟨by omega, IW hc b (by omega) hcan2, trivial⟩, by rw[kT];exact hk, fun p hp hfp=>?_⟩
   by_cases ep:p=P
   ·subst ep
    rw[zP hc b (by omega) hcan2];exact hst.1
   ·exact d p (by omega) hfp
  ·rw[if_neg hf, if_neg hf, List.append_nil]
   refine⟨a, b, fun p hp hfp=>?_⟩
   by_cases ep:p=P
   ·subst ep;exact absurd hfp hf
   ·exact d p (by omega) hfp
theorem K3 (hc:a8 c) (hs:fa c s) (h:NU c s u) (w:Nat→Bool):jo c u (kk c s w c.procs.length)∧NU c (bf c s w) (b9 c u (kk c s w c.procs.length)):=by
 obtain⟨a, b, _⟩:=vj hc hs h w _ (Nat.le_refl _)
 rw[zE hs]
 exact⟨a, b⟩
def ij (c:Ci):Ns→List (Nat→Bool)→List Nat
 | _, []=>[]
 | s, w::r=>kk c s w c.procs.length++ij c (bf c s w) r
def xq (c:Ci):Ns→List (Nat→Bool)→Ns
 | s, []=>s
 | s, w::r=>xq c (bf c s w) r
theorem I2 (hc:a8 c):∀{l:List (Nat→Bool)} {s:Ns} {u:Uf}, fa c s→NU c s u→jo c u (ij c s l)∧NU c (xq c s l) (b9 c u (ij c s l))∧fa c (xq c s l)∧∀q, (ij c s l).count q≤l.length
 | [], s, u, hs, h=>⟨trivial, h, hs, fun q=>by simp[ij]⟩
 | w::r, s, u, hs, h=>by
  obtain⟨a, b⟩:=K3 hc hs h w
  obtain⟨a2, b2, d2, e2⟩:=I2 hc (l:=r) (CX hc hs w) b
  refine⟨sq a a2, by rw[ij, kT];exact b2, d2, fun q=>?_⟩
  rw[ij, List.count_append, yz, List.length_cons]
  have:=e2 q
  split<;>omega
theorem Fc:∀{l m:List (Nat→Bool)} {s:Ns}, ij c s (l++m)=ij c s l++ij c (xq c s l) m
 | [], _, _=>rfl
 | w::r, m, s=>by rw[List.cons_append, ij, ij, Fc (l:=r), List.append_assoc];rfl
end
theorem zQ {v w:Int} (h:v<0):b8 v w=false:=by unfold b8;rw[decide_eq_false (by omega)];rfl
theorem zR {v w:Int} (h:v>an w):b8 v w=false:=by unfold b8;rw[decide_eq_false (show ¬v≤an w by omega), Bool.and_false]
theorem K4 {v w:Int} (h:¬v<0) (h2:¬v>an w):b8 v w=true:=by unfold b8;rw[decide_eq_true (show v≤an w by omega), decide_eq_true (show 0≤v by omega)];rfl
theorem pj {l:List Int} {w:Int} {i:Nat} (hi:i<l.length) (h:b8 (l.getD i 0) w=false):di l w=false:=fI (f:=fun i=>b8 (l.getD i 0) w) hi h
theorem sr {l:List Int} {w:Int} (h:∀i, i<l.length→b8 (l.getD i 0) w=true):di l w=true:=bL.2 h
theorem I3 {f:Ch→Int} {c:Ci} {n:Int} (h1:0≤n) (h2:n<c.chans.length) (h:f (cH c n.toNat)=-1):kh f c n=true:=by unfold kh;rw[decide_eq_true h1, decide_eq_true h2, decide_eq_true h];rfl
end Go.Proofs.YtckgpflobhpnpaaGreat
