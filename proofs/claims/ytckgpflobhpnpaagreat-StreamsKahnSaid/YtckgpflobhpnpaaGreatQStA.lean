/-
  Unbounded runs of circuits: whatever fires first, it can be completed to the same.
-/
import Derived.Test.YtckgpflobhpnpaaGreatQNeC
namespace Go.Proofs.YtckgpflobhpnpaaGreat
open Go.RowKit
set_option linter.unusedVariables false
set_option linter.unusedSimpArgs false
structure Uf where
 s:Nat→Ps
 l:Nat→List Int
 rd:Nat→Nat
 cnt:Nat→Nat
def wW (c:Ci) (u:Uf) (p j:Nat):Hd:=if u.rd (mH (bc c p) j)<(u.l (mH (bc c p) j)).length then ⟨true, (u.l (mH (bc c p) j)).getD (u.rd (mH (bc c p) j)) 0⟩else aP
def bS (c:Ci) (u:Uf) (p:Nat):List Hd:=tab (wW c u p) (bc c p).takes.length
def ci (c:Ci) (p:Nat):List Bool:=List.replicate (bc c p).puts.length true
def fU (c:Ci) (u:Uf) (p:Nat):Fi:=ay (bc c p) (u.s p) (bS c u p) (ci c p)
def jI (c:Ci) (p:Nat) (f:Fi) (n:Nat):Nat:=if n∈kU (bc c p) f (bc c p).takes.length then 1 else 0
def ie (c:Ci) (p:Nat) (f:Fi) (n:Nat):List Int:=((mI (bc c p) f (bc c p).puts.length).filter (fun e=>e.1==n)).map (·.2)
def ft (c:Ci) (u:Uf) (p:Nat):Bool:=(fU c u p).fires
def aj (c:Ci) (u:Uf) (p:Nat):Uf:=⟨fun q=>if q=p then (fU c u p).s else u.s q, fun n=>u.l n++ie c p (fU c u p) n, fun n=>u.rd n+jI c p (fU c u p) n, fun q=>if q=p then u.cnt q+1 else u.cnt q⟩
section
variable {c:Ci} {u v:Uf} {p q n:Nat}
theorem Gz (hc:a6 c) (hp:p<c.procs.length) {f:Fi} (h:jI c p f n≠0):(fT c n).dst=p:=by
 unfold jI at h
 split at h
 ·rename_i hm;exact(tK hc hp (Nat.le_refl _) hm).2
 ·exact absurd rfl h
theorem vf (hc:a6 c) (hp:p<c.procs.length) {f:Fi} (h:ie c p f n≠[]):(fT c n).frm=p:=by
 unfold ie at h
 obtain⟨x, hx⟩:=List.exists_mem_of_ne_nil _ h
 obtain⟨e, he, _⟩:=List.mem_map.1 hx
 obtain⟨h1, h2⟩:=List.mem_filter.1 he
 have:=(C2 hc hp (Nat.le_refl _) h1).2
 rw[beq_iff_eq]at h2
 rw[← h2];exact this
theorem vg (hc:a6 c) (hp:p<c.procs.length) (hq:q<c.procs.length) (hpq:p≠q) (h:ft c u q=true):fU c (aj c u p) q=fU c u q:=by
 unfold ft fU at h
 rw[pW]at h
 unfold fU
 have hs:(aj c u p).s q=u.s q:=if_neg (Ne.symm hpq)
 rw[hs]
 refine nU (hc.pr q hq) h (fun j hj hh=>?_) (fun j hj hr=>hr)
 unfold bS at hh ⊢
 rw[aE hj]at hh ⊢
 rw[aE hj]
 have hd:(fT c (mH (bc c q) j)).dst=q:=(hc.tk q hq j hj).2.2.2
 have hrd:(aj c u p).rd (mH (bc c q) j)=u.rd (mH (bc c q) j):=by
  show u.rd _+jI c p _ _=_
  by_cases h0:jI c p (fU c u p) (mH (bc c q) j)=0
  ·rw[h0];rfl
  ·have:=Gz hc hp h0
   rw[hd]at this;omega
 unfold wW at hh ⊢
 rw[hrd]
 split at hh
 ·rename_i hlt
  rw[if_pos hlt]
  have hl:(aj c u p).l (mH (bc c q) j)=u.l (mH (bc c q) j)++ie c p (fU c u p) (mH (bc c q) j):=rfl
  rw[hl, if_pos (by rw[List.length_append];omega), rc, if_pos hlt]
 ·cases hh
theorem zL (hc:a6 c) (hp:p<c.procs.length) (hq:q<c.procs.length) (hpq:p≠q) (h:ft c u q=true):ft c (aj c u p) q=true:=by
 unfold ft at h ⊢
 rw[vg hc hp hq hpq h];exact h
theorem KR (h1:∀q, u.s q=v.s q) (h2:∀n, u.l n=v.l n) (h3:∀n, u.rd n=v.rd n) (h4:∀q, u.cnt q=v.cnt q):u=v:=by
 cases u;cases v
 simp only at h1 h2 h3 h4
 rw[funext h1, funext h2, funext h3, funext h4]
theorem OM (hc:a6 c) (hp:p<c.procs.length) (hq:q<c.procs.length) (hpq:p≠q) (h1:ft c u p=true) (h2:ft c u q=true):aj c (aj c u p) q=aj c (aj c u q) p:=by
 have e1:=vg hc hp hq hpq h2
 have e2:=vg hc hq hp (Ne.symm hpq) h1
 have f1:aj c (aj c u p) q=⟨fun x=>if x=q then (fU c u q).s else (aj c u p).s x, fun n=>(aj c u p).l n++ie c q (fU c u q) n, fun n=>(aj c u p).rd n+jI c q (fU c u q) n, fun x=>if x=q then (aj c u p).cnt x+1 else (aj c u p).cnt x⟩:=by rw[aj, e1]
 have f2:aj c (aj c u q) p=⟨fun x=>if x=p then (fU c u p).s else (aj c u q).s x, fun n=>(aj c u q).l n++ie c p (fU c u p) n, fun n=>(aj c u q).rd n+jI c p (fU c u p) n, fun x=>if x=p then (aj c u q).cnt x+1 else (aj c u q).cnt x⟩:=by rw[aj, e2]
 rw[f1, f2]
 refine KR (fun x=>?_) (fun n=>?_) (fun n=>?_) (fun x=>?_)
 ·show(if x=q then _ else if x=p then _ else u.s x)=(if x=p then _ else if x=q then _ else u.s x)
  by_cases a:x=q
  ·rw[if_pos a, if_neg (by omega), if_pos a]
  ·rw[if_neg a]
   by_cases b:x=p
   ·rw[if_pos b, if_pos b]
   ·rw[if_neg b, if_neg b, if_neg a]
 ·show(u.l n++ie c p (fU c u p) n)++ie c q (fU c u q) n=(u.l n++ie c q (fU c u q) n)++ie c p (fU c u p) n
  by_cases a:ie c p (fU c u p) n=[]
  ·rw[a];simp
  ·have b:ie c q (fU c u q) n=[]:=by
    refine Classical.byContradiction fun h=>?_
    have:=vf hc hp a
    have:=vf hc hq h
    omega
   rw[b];simp
 ·show(u.rd n+jI c p (fU c u p) n)+jI c q (fU c u q) n=(u.rd n+jI c q (fU c u q) n)+jI c p (fU c u p) n
  omega
 ·show(if x=q then (if x=p then u.cnt x+1 else u.cnt x)+1 else if x=p then u.cnt x+1 else u.cnt x)=(if x=p then (if x=q then u.cnt x+1 else u.cnt x)+1 else if x=q then u.cnt x+1 else u.cnt x)
  by_cases a:x=q
  ·have b:¬x=p:=by omega
   simp only[if_pos a, if_neg b]
  ·simp only[if_neg a]
def cm (c:Ci):Uf→List Nat→Uf
 | u, []=>u
 | u, p::r=>cm c (aj c u p) r
def kd (c:Ci):Uf→List Nat→Prop
 | _, []=>True
 | u, p::r=>p<c.procs.length∧ft c u p=true∧kd c (aj c u p) r
theorem ke:∀{l m:List Nat} {u:Uf}, cm c u (l++m)=cm c (cm c u l) m
 | [], _, _=>rfl
 | p::r, m, u=>ke (l:=r) (u:=aj c u p)
theorem rf:∀{l m:List Nat} {u:Uf}, kd c u l→kd c (cm c u l) m→kd c u (l++m)
 | [], _, _, _, h=>h
 | p::r, m, u, h1, h2=>⟨h1.1, h1.2.1, rf (l:=r) h1.2.2 h2⟩
theorem gG:∀{l:List Nat} {u:Uf} (q:Nat), (cm c u l).cnt q=u.cnt q+l.count q
 | [], _, _=>rfl
 | p::r, u, q=>by
  rw[cm, gG (l:=r) q, List.count_cons]
  show(if q=p then u.cnt q+1 else u.cnt q)+_=_
  by_cases h:q=p
  ·rw[if_pos h, h];simp;omega
  ·rw[if_neg h]
   have:(p==q)=false:=beq_eq_false_iff_ne.2 (fun e=>h e.symm)
   rw[this];simp
theorem GA (hc:a6 c):∀{l:List Nat} {u:Uf}, kd c u l→∀{p:Nat}, p<c.procs.length→ft c u p=true →
  ∃m, kd c (aj c u p) m∧((p∈l∧(∀x, m.count x=l.count x-(if x=p then 1 else 0))∧cm c (aj c u p) m=cm c u l) ∨
   (p∉l∧(∀x, m.count x=l.count x)∧ft c (cm c u l) p=true∧cm c (aj c u p) m=aj c (cm c u l) p))
 | [], u, _, p, hp, hcan=>⟨[], trivial, .inr ⟨by simp, fun _=>rfl, hcan, rfl⟩⟩
 | q::r, u, ⟨hq, hcq, hr⟩, p, hp, hcan=>by
  by_cases hpq:p=q
  ·subst hpq
   refine⟨r, hr, .inl ⟨List.mem_cons_self, fun x=>?_, rfl⟩⟩
   rw[List.count_cons]
   by_cases h:x=p
   ·rw[if_pos h, h];simp
   ·have:(p==x)=false:=beq_eq_false_iff_ne.2 (fun e=>h e.symm)
    rw[if_neg h, this];simp
  ·obtain⟨m, h1, h2⟩:=GA hc (l:=r) hr hp (zL hc hq hp (Ne.symm hpq) hcan)
   have hd:=OM hc hp hq hpq hcan hcq
   refine⟨q::m, ⟨hq, zL hc hp hq hpq hcq, by rw[hd];exact h1⟩, ?_⟩
   have e:cm c (aj c u p) (q::m)=cm c (aj c (aj c u q) p) m:=by rw[cm, hd]
   rcases h2 with ⟨a, b, d⟩ | ⟨a, b, d, f⟩
   ·refine .inl ⟨List.mem_cons_of_mem _ a, fun x=>?_, by rw[e];exact d⟩
    rw[List.count_cons, List.count_cons, b x]
    by_cases h:x=p
    ·have h0:0<r.count x:=by rw[h];exact List.count_pos_iff.2 a
     rw[if_pos h];omega
    ·rw[if_neg h];omega
   ·refine .inr ⟨fun hm=>?_, fun x=>by rw[List.count_cons, List.count_cons, b x], d, by rw[e];exact f⟩
    rcases List.mem_cons.1 hm with h | h
    ·exact hpq h
    ·exact a h
theorem Oy (hc:a6 c):∀{l m:List Nat} {u:Uf}, kd c u l→kd c u m →
  ∃l' m', kd c (cm c u l) m'∧kd c (cm c u m) l'∧cm c (cm c u l) m'=cm c (cm c u m) l'∧(∀x, m'.count x=m.count x-l.count x)∧∀x, l'.count x=l.count x-m.count x
 | [], m, u, _, hm=>⟨[], m, hm, trivial, rfl, fun x=>by simp, fun x=>by simp⟩
 | p::r, m, u, ⟨hp, hcan, hr⟩, hm=>by
  obtain⟨m1, h1, h2⟩:=GA hc hm hp hcan
  obtain⟨l1, m', a1, a2, a3, a4, a5⟩:=Oy hc (l:=r) (m:=m1) hr h1
  have hcp:∀x, (p::r).count x=r.count x+(if x=p then 1 else 0):=fun x=>by
   rw[List.count_cons]
   by_cases h:x=p
   ·rw[if_pos h, h];simp
   ·have:(p==x)=false:=beq_eq_false_iff_ne.2 (fun e=>h e.symm)
    rw[if_neg h, this];simp
  rcases h2 with ⟨b1, b2, b3⟩ | ⟨b1, b2, b3, b4⟩
  ·refine⟨l1, m', a1, by rw[← b3];exact a2, by rw[cm, a3, b3], fun x=>?_, fun x=>?_⟩
   ·rw[a4, b2, hcp];omega
   ·rw[a5, b2, hcp]
    by_cases h:x=p
    ·have h0:0<m.count x:=by rw[h];exact List.count_pos_iff.2 b1
     rw[if_pos h];omega
    ·rw[if_neg h];omega
  ·have h0:m.count p=0:=List.count_eq_zero.2 b1
   refine⟨p::l1, m', a1, ⟨hp, b3, by rw[← b4];exact a2⟩, ?_, fun x=>?_, fun x=>?_⟩
   ·show cm c (cm c (aj c u p) r) m'=cm c (aj c (cm c u m) p) l1
    rw[a3, b4]
   ·rw[a4, b2, hcp]
    by_cases h:x=p
    ·rw[if_pos h, h];omega
    ·rw[if_neg h];omega
   ·rw[List.count_cons, a5, b2, hcp]
    by_cases h:x=p
    ·rw[if_pos h, h];simp;omega
    ·have:(p==x)=false:=beq_eq_false_iff_ne.2 (fun e=>h e.symm)
     rw[if_neg h, this];simp
structure Mi (c:Ci) (n:Nat) (u:Uf) (l:List Nat):Prop where
 can:kd c u l
 le:∀p, l.count p≤n
 stop:∀p, p<c.procs.length→ft c (cm c u l) p=true→n≤l.count p
theorem yd {l:List Nat} (h:∀x, l.count x=0):l=[]:=by
 cases l with
 | nil=>rfl
 | cons a r=>have:=h a;rw[List.count_cons]at this;simp at this
theorem GB (hc:a6 c) {l m:List Nat} (h:Mi c n u l) (hm:kd c u m) (hle:∀p, m.count p≤n):∃l', kd c (cm c u m) l'∧cm c (cm c u m) l'=cm c u l∧∀p, m.count p≤l.count p:=by
 obtain⟨l', m', a1, a2, a3, a4, a5⟩:=Oy hc h.can hm
 have hnil:m'=[]:=by
  cases m' with
  | nil=>rfl
  | cons p r =>
   exfalso
   have h1:=a4 p
   rw[List.count_cons]at h1
   have h2:=h.stop p a1.1 a1.2.1
   have h3:=hle p
   simp at h1
   omega
 subst hnil
 refine⟨l', a2, a3.symm, fun p=>?_⟩
 have:=a4 p
 simp at this
 omega
theorem Mj (hc:a6 c) {l m:List Nat} (h:Mi c n u l) (k:Mi c n u m):cm c u l=cm c u m∧∀p, l.count p=m.count p:=by
 obtain⟨l', a1, a2, a3⟩:=GB hc h k.can k.le
 obtain⟨m', b1, b2, b3⟩:=GB hc k h.can h.le
 have hcnt:∀p, l.count p=m.count p:=fun p=>Nat.le_antisymm (b3 p) (a3 p)
 have hnil:l'=[]:=by
  refine yd fun x=>?_
  have h1:=gG (c:=c) (l:=l') (u:=cm c u m) x
  rw[a2, gG, gG, hcnt x]at h1
  omega
 subst hnil
 exact⟨a2.symm, hcnt⟩
end
end Go.Proofs.YtckgpflobhpnpaaGreat
