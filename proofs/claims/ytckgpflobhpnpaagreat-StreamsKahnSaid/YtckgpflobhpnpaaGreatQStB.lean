/-
  Runs of networks are unbounded runs.
-/
import Derived.Test.YtckgpflobhpnpaaGreatQStA
import Derived.Test.YtckgpflobhpnpaaGreatQGrw
namespace Go.Proofs.YtckgpflobhpnpaaGreat
open Go.RowKit
set_option linter.unusedVariables false
set_option linter.unusedSimpArgs false
structure NU (c:Ci) (s:Ns) (u:Uf):Prop where
 ps:∀p, p<c.procs.length→Bf s p=u.s p
 wd:∀n, n<c.chans.length→xY s n=(u.l n).drop (u.rd n)
 le:∀n, n<c.chans.length→u.rd n≤(u.l n).length
section
variable {c:Ci} {s:Ns} {u:Uf} {p n:Nat} {w:Nat→Bool}
theorem GD (hc:a6 c) (h:NU c s u) (hp:p<c.procs.length):gf c s p=bS c u p:=by
 unfold gf bS
 refine iq fun j hj=>?_
 have hn:=Ju hc hp hj
 unfold cM wW
 rw[h.wd _ hn, List.length_drop]
 have hle:=h.le _ hn
 by_cases hlt:u.rd (mH (bc c p) j)<(u.l (mH (bc c p) j)).length
 ·rw[if_pos hlt, if_pos (by omega), wP];rfl
 ·rw[if_neg hlt, if_neg (by omega)]
theorem ye (hc:a6 c) (h:NU c s u) (hp:p<c.procs.length) (hcan:gg c s p=true):fU c u p=af c s p:=by
 rw[sk]at hcan
 unfold fU af
 rw[← GD hc h hp, ← h.ps p hp]
 refine nU (hc.pr p hp) hcan (fun j hj hh=>rfl) (fun j hj _=>?_)
 unfold ci
 rw[d9 _ _ (by rw[List.length_replicate];exact hj), List.getElem_replicate]
theorem KS (hc:a6 c) (h:NU c s u) (hp:p<c.procs.length) (hcan:gg c s p=true):ft c u p=true:=by
 unfold ft;rw[ye hc h hp hcan];exact hcan
theorem GE (hc:a6 c) (hp:p<c.procs.length) (hcan:gg c s p=true):dX c s (cQ p) n=jI c p (af c s p) n:=by
 unfold dX jI
 by_cases hm:n∈kU (bc c p) (af c s p) (bc c p).takes.length
 ·have hd:=(tK hc hp (Nat.le_refl _) hm).2
  have hdn:gP c n=p:=by unfold gP;rw[hd];rfl
  rw[if_pos hm, hdn, if_pos]
  refine⟨?_, ?_⟩
  ·unfold aA;rw[j9, hcan];rfl
  ·unfold eu;exact decide_eq_true hm
 ·rw[if_neg hm, if_neg]
  rintro⟨h1, h2⟩
  have he:gP c n=p:=by
   unfold aA cQ at h1
   rw[Bool.and_eq_true]at h1
   exact of_decide_eq_true h1.1
  rw[he]at h2
  exact hm (of_decide_eq_true h2)
theorem GF (hc:a6 c) (hp:p<c.procs.length) (hcan:gg c s p=true):cN c s (cQ p) n=ie c p (af c s p) n:=by
 unfold cN
 by_cases he:eO c n=p
 ·rw[he, if_pos (by unfold aA;rw[j9, hcan];rfl)];rfl
 ·rw[if_neg (by unfold aA;rw[tL he];simp)]
  refine(Classical.byContradiction fun hh=>?_:[]=_)
  have:=vf hc hp (n:=n) (f:=af c s p) (fun e=>hh e.symm)
  apply he
  unfold eO;rw[this];rfl
theorem zM (hc:a6 c) (h:NU c s u) (hp:p<c.procs.length) (hcan:gg c s p=true) (hn:n<c.chans.length):jI c p (af c s p) n≤(xY s n).length:=by
 unfold jI
 split
 ·rename_i hm
  exact wO hcan (decide_eq_true hm)
 ·exact Nat.zero_le _
theorem KT (hc:a6 c) (h:NU c s u) (hp:p<c.procs.length) (hcan:gg c s p=true):NU c (bD c s (cQ p)) (aj c u p):=by
 have hst:=ye hc h hp hcan
 refine⟨fun q hq=>?_, fun m hm=>?_, fun m hm=>?_⟩
 ·rw[mM c s _ hq]
  show cO c s (cQ p) q=if q=p then (fU c u p).s else u.s q
  unfold cO aA
  by_cases e:q=p
  ·subst e;rw[j9, hcan, if_pos (by rfl), if_pos rfl, hst]
  ·rw[tL e, if_neg e];exact h.ps q hq
 ·rw[iU c s _ hm]
  unfold dY
  rw[GE hc hp hcan, GF hc hp hcan, h.wd m hm, List.drop_drop]
  show _=(u.l m++ie c p (fU c u p) m).drop (u.rd m+jI c p (fU c u p) m)
  rw[hst]
  have h1:=zM hc h hp hcan hm
  rw[h.wd m hm, List.length_drop]at h1
  have h2:=h.le m hm
  rw[List.drop_append_of_le_length (by omega)]
 ·show u.rd m+jI c p (fU c u p) m≤(u.l m++ie c p (fU c u p) m).length
  rw[hst, List.length_append]
  have h1:=zM hc h hp hcan hm
  rw[h.wd m hm, List.length_drop]at h1
  have h2:=h.le m hm
  omega
def jJ (c:Ci) (s:Ns) (w:Nat→Bool) (P:Nat):List Nat:=(List.range P).filter (aA c s w)
theorem sZ (q:Nat):∀P, (List.range P).count q=if q<P then 1 else 0
 | 0=>by simp
 | P+1=>by
  rw[List.range_succ, List.count_append, sZ q P, List.count_cons, List.count_nil]
  by_cases e:P=q
  ·subst e;simp
  ·have e2:(P==q)=false:=beq_eq_false_iff_ne.2 e
   rw[e2, if_neg (show ¬(false=true) by simp)]
   by_cases g:q<P
   ·rw[if_pos g, if_pos (by omega)]
   ·rw[if_neg g, if_neg (by omega)]
theorem wX (c:Ci) (s:Ns) (w:Nat→Bool) (q P:Nat):(jJ c s w P).count q=if q<P∧aA c s w q=true then 1 else 0:=by
 unfold jJ
 by_cases hf:aA c s w q=true
 ·rw[List.count_filter hf, sZ]
  by_cases g:q<P
  ·rw[if_pos g, if_pos ⟨g, hf⟩]
  ·rw[if_neg g, if_neg (fun h=>g h.1)]
 ·rw[if_neg (fun h=>hf h.2)]
  exact List.count_eq_zero.2 (fun hm=>hf (List.mem_filter.1 hm).2)
theorem GG (hc:a6 c) (hP:n<c.procs.length):bD c s (gQ w (n+1))=if aA c s w n=true then bD c (bD c s (gQ w n)) (cQ n)else bD c s (gQ w n):=by
 split
 ·rename_i hf
  obtain⟨hw, hcan⟩:=iy hf
  have hu:gQ w n n=false:=by unfold gQ;simp
  rw[IE hc hP hcan hu]
  refine wQ (fun q=>?_)
  unfold aA gQ cQ
  by_cases e:q=n
  ·subst e;simp[hw]
  ·have:decide (q<n+1)=decide (q<n):=by simp only[decide_eq_decide];omega
   rw[this];simp[e]
 ·rename_i hf
  refine wQ (fun q=>?_)
  by_cases e:q=n
  ·subst e
   have h1:aA c s (gQ w (q+1)) q=false:=by
    unfold aA gQ
    unfold aA at hf
    simp only[Bool.and_eq_true, not_and, Bool.not_eq_true]at hf
    cases hw:w q
    ·simp
    ·simp[hf hw]
   rw[h1];unfold aA gQ;simp
  ·unfold aA gQ
   have:decide (q<n+1)=decide (q<n):=by simp only[decide_eq_decide];omega
   rw[this]
theorem tO (hc:a6 c) (hs:j6 c s) (h:NU c s u) (w:Nat→Bool):∀P, P≤c.procs.length→kd c u (jJ c s w P)∧NU c (bD c s (gQ w P)) (cm c u (jJ c s w P))∧∀p, p<P→aA c s w p=true→fU c (cm c u (jJ c s w p)) p=af c s p
 | 0, _=>by
  rw[Gl hs (fun p hp=>by unfold aA gQ;simp)]
  exact⟨trivial, h, fun p hp=>by omega⟩
 | P+1, hP=>by
  obtain⟨a, b, d⟩:=tO hc hs h w P (by omega)
  have e:jJ c s w (P+1)=jJ c s w P++(if aA c s w P=true then [P]else []):=by
   unfold jJ
   rw[List.range_succ, List.filter_append]
   split
   ·rename_i hf;rw[List.filter_cons_of_pos hf, List.filter_nil]
   ·rename_i hf;rw[List.filter_cons_of_neg hf, List.filter_nil]
  rw[e, GG hc (by omega)]
  by_cases hf:aA c s w P=true
  ·rw[if_pos hf, if_pos hf]
   obtain⟨hw, hcan⟩:=iy hf
   have hu:gQ w P P=false:=by unfold gQ;simp
   have hcan2:=IG hc (show P<c.procs.length by omega) hcan hu
   have hst:=u9 hc (show P<c.procs.length by omega) hcan hu
   have hk:=KT hc b (show P<c.procs.length by omega) hcan2
   refine⟨rf a ⟨by omega, KS hc b (by omega) hcan2, trivial⟩, by rw[ke];exact hk, fun p hp hfp=>?_⟩
   by_cases ep:p=P
   ·subst ep
    rw[ye hc b (by omega) hcan2];exact hst.1
   ·exact d p (by omega) hfp
  ·rw[if_neg hf, if_neg hf, List.append_nil]
   refine⟨a, b, fun p hp hfp=>?_⟩
   by_cases ep:p=P
   ·subst ep;exact absurd hfp hf
   ·exact d p (by omega) hfp
theorem IL (hc:a6 c) (hs:j6 c s) (h:NU c s u) (w:Nat→Bool):kd c u (jJ c s w c.procs.length)∧NU c (bD c s w) (cm c u (jJ c s w c.procs.length)):=by
 obtain⟨a, b, _⟩:=tO hc hs h w _ (Nat.le_refl _)
 rw[x5 hs]
 exact⟨a, b⟩
def gU (c:Ci):Ns→List (Nat→Bool)→List Nat
 | _, []=>[]
 | s, w::r=>jJ c s w c.procs.length++gU c (bD c s w) r
def vM (c:Ci):Ns→List (Nat→Bool)→Ns
 | s, []=>s
 | s, w::r=>vM c (bD c s w) r
theorem GH (hc:a6 c):∀{l:List (Nat→Bool)} {s:Ns} {u:Uf}, j6 c s→NU c s u→kd c u (gU c s l)∧NU c (vM c s l) (cm c u (gU c s l))∧j6 c (vM c s l)∧∀q, (gU c s l).count q≤l.length
 | [], s, u, hs, h=>⟨trivial, h, hs, fun q=>by simp[gU]⟩
 | w::r, s, u, hs, h=>by
  obtain⟨a, b⟩:=IL hc hs h w
  obtain⟨a2, b2, d2, e2⟩:=GH hc (l:=r) (Kz hc hs w) b
  refine⟨rf a a2, by rw[gU, ke];exact b2, d2, fun q=>?_⟩
  rw[gU, List.count_append, wX, List.length_cons]
  have:=e2 q
  split<;>omega
theorem De:∀{l m:List (Nat→Bool)} {s:Ns}, gU c s (l++m)=gU c s l++gU c (vM c s l) m
 | [], _, _=>rfl
 | w::r, m, s=>by rw[List.cons_append, gU, gU, De (l:=r), List.append_assoc];rfl
end
end Go.Proofs.YtckgpflobhpnpaaGreat
