/-
  Unbounded runs of circuits: whatever fires first, it can be completed to the same.
-/
import Derived.Test.YtckgpflobhpnpaaGreatQNeC
namespace Go.Proofs.YtckgpflobhpnpaaGreat
open Go.RowKit
set_option linter.unusedVariables false
set_option linter.unusedSimpArgs false
structure Uf where
 s:Nat→Ps
 l:Nat→List Int
 rd:Nat→Nat
 cnt:Nat→Nat
def Nl (c:Ci) (u:Uf) (p j:Nat):Hd:=if u.rd (nP (bj c p) j)<(u.l (nP (bj c p) j)).length then ⟨true, (u.l (nP (bj c p) j)).getD (u.rd (nP (bj c p) j)) 0⟩else aP
def xp (c:Ci) (u:Uf) (p:Nat):List Hd:=tab (Nl c u p) (bj c p).takes.length
def Dp (c:Ci) (p:Nat):List Bool:=List.replicate (bj c p).puts.length true
def ge (c:Ci) (u:Uf) (p:Nat):Fi:=aM (bj c p) (u.s p) (xp c u p) (Dp c p)
def jn (c:Ci) (p:Nat) (f:Fi) (n:Nat):Nat:=if n∈ku (bj c p) f (bj c p).takes.length then 1 else 0
def iA (c:Ci) (p:Nat) (f:Fi) (n:Nat):List Int:=((mO (bj c p) f (bj c p).puts.length).filter (fun e=>e.1==n)).map (·.2)
def iB (c:Ci) (u:Uf) (p:Nat):Bool:=(ge c u p).fires
def ao (c:Ci) (u:Uf) (p:Nat):Uf:=⟨fun q=>if q=p then (ge c u p).s else u.s q, fun n=>u.l n++iA c p (ge c u p) n, fun n=>u.rd n+jn c p (ge c u p) n, fun q=>if q=p then u.cnt q+1 else u.cnt q⟩
section
variable {c:Ci} {u v:Uf} {p q n:Nat}
theorem Bq (hc:a8 c) (hp:p<c.procs.length) {f:Fi} (h:jn c p f n≠0):(cH c n).dst=p:=by
 unfold jn at h
 split at h
 ·rename_i hm;exact(u9 hc hp (Nat.le_refl _) hm).2
 ·exact absurd rfl h
theorem wO (hc:a8 c) (hp:p<c.procs.length) {f:Fi} (h:iA c p f n≠[]):(cH c n).frm=p:=by
 unfold iA at h
 obtain⟨x, hx⟩:=List.exists_mem_of_ne_nil _ h
 obtain⟨e, he, _⟩:=List.mem_map.1 hx
 obtain⟨h1, h2⟩:=List.mem_filter.1 he
 have:=(ET hc hp (Nat.le_refl _) h1).2
 rw[beq_iff_eq]at h2
 rw[← h2];exact this
theorem wP (hc:a8 c) (hp:p<c.procs.length) (hq:q<c.procs.length) (hpq:p≠q) (h:iB c u q=true):ge c (ao c u p) q=ge c u q:=by
 unfold iB ge at h
 rw[lQ]at h
 unfold ge
 have hs:(ao c u p).s q=u.s q:=if_neg (Ne.symm hpq)
 rw[hs]
 refine o8 (hc.pr q hq) h (fun j hj hh=>?_) (fun j hj hr=>hr)
 unfold xp at hh ⊢
 rw[aC hj]at hh ⊢
 rw[aC hj]
 have hd:(cH c (nP (bj c q) j)).dst=q:=(hc.tk q hq j hj).2.2.2
 have hrd:(ao c u p).rd (nP (bj c q) j)=u.rd (nP (bj c q) j):=by
  show u.rd _+jn c p _ _=_
  by_cases h0:jn c p (ge c u p) (nP (bj c q) j)=0
  ·rw[h0];rfl
  ·have:=Bq hc hp h0
   rw[hd]at this;omega
 unfold Nl at hh ⊢
 rw[hrd]
 split at hh
 ·rename_i hlt
  rw[if_pos hlt]
  have hl:(ao c u p).l (nP (bj c q) j)=u.l (nP (bj c q) j)++iA c p (ge c u p) (nP (bj c q) j):=rfl
  rw[hl, if_pos (by rw[List.length_append];omega), sg, if_pos hlt]
 ·cases hh
theorem Br (hc:a8 c) (hp:p<c.procs.length) (hq:q<c.procs.length) (hpq:p≠q) (h:iB c u q=true):iB c (ao c u p) q=true:=by
 unfold iB at h ⊢
 rw[wP hc hp hq hpq h];exact h
theorem Nn (h1:∀q, u.s q=v.s q) (h2:∀n, u.l n=v.l n) (h3:∀n, u.rd n=v.rd n) (h4:∀q, u.cnt q=v.cnt q):u=v:=by
 cases u;cases v
 simp only at h1 h2 h3 h4
 rw[funext h1, funext h2, funext h3, funext h4]
theorem Re (hc:a8 c) (hp:p<c.procs.length) (hq:q<c.procs.length) (hpq:p≠q) (h1:iB c u p=true) (h2:iB c u q=true):ao c (ao c u p) q=ao c (ao c u q) p:=by
 have e1:=wP hc hp hq hpq h2
 have e2:=wP hc hq hp (Ne.symm hpq) h1
 have f1:ao c (ao c u p) q=⟨fun x=>if x=q then (ge c u q).s else (ao c u p).s x, fun n=>(ao c u p).l n++iA c q (ge c u q) n, fun n=>(ao c u p).rd n+jn c q (ge c u q) n, fun x=>if x=q then (ao c u p).cnt x+1 else (ao c u p).cnt x⟩:=by rw[ao, e1]
 have f2:ao c (ao c u q) p=⟨fun x=>if x=p then (ge c u p).s else (ao c u q).s x, fun n=>(ao c u q).l n++iA c p (ge c u p) n, fun n=>(ao c u q).rd n+jn c p (ge c u p) n, fun x=>if x=p then (ao c u q).cnt x+1 else (ao c u q).cnt x⟩:=by rw[ao, e2]
 rw[f1, f2]
 refine Nn (fun x=>?_) (fun n=>?_) (fun n=>?_) (fun x=>?_)
 ·show(if x=q then _ else if x=p then _ else u.s x)=(if x=p then _ else if x=q then _ else u.s x)
  by_cases a:x=q
  ·rw[if_pos a, if_neg (by omega), if_pos a]
  ·rw[if_neg a]
   by_cases b:x=p
   ·rw[if_pos b, if_pos b]
   ·rw[if_neg b, if_neg b, if_neg a]
 ·show(u.l n++iA c p (ge c u p) n)++iA c q (ge c u q) n=(u.l n++iA c q (ge c u q) n)++iA c p (ge c u p) n
  by_cases a:iA c p (ge c u p) n=[]
  ·rw[a];simp
  ·have b:iA c q (ge c u q) n=[]:=by
    refine Classical.byContradiction fun h=>?_
    have:=wO hc hp a
    have:=wO hc hq h
    omega
   rw[b];simp
 ·show(u.rd n+jn c p (ge c u p) n)+jn c q (ge c u q) n=(u.rd n+jn c q (ge c u q) n)+jn c p (ge c u p) n
  omega
 ·show(if x=q then (if x=p then u.cnt x+1 else u.cnt x)+1 else if x=p then u.cnt x+1 else u.cnt x)=(if x=p then (if x=q then u.cnt x+1 else u.cnt x)+1 else if x=q then u.cnt x+1 else u.cnt x)
  by_cases a:x=q
  ·have b:¬x=p:=by omega
   simp only[if_pos a, if_neg b]
  ·simp only[if_neg a]
def b9 (c:Ci):Uf→List Nat→Uf
 | u, []=>u
 | u, p::r=>b9 c (ao c u p) r
def jo (c:Ci):Uf→List Nat→Prop
 | _, []=>True
 | u, p::r=>p<c.procs.length∧iB c u p=true∧jo c (ao c u p) r
theorem kT:∀{l m:List Nat} {u:Uf}, b9 c u (l++m)=b9 c (b9 c u l) m
 | [], _, _=>rfl
 | p::r, m, u=>kT (l:=r) (u:=ao c u p)
theorem sq:∀{l m:List Nat} {u:Uf}, jo c u l→jo c (b9 c u l) m→jo c u (l++m)
 | [], _, _, _, h=>h
 | p::r, m, u, h1, h2=>⟨h1.1, h1.2.1, sq (l:=r) h1.2.2 h2⟩
theorem eT:∀{l:List Nat} {u:Uf} (q:Nat), (b9 c u l).cnt q=u.cnt q+l.count q
 | [], _, _=>rfl
 | p::r, u, q=>by
  rw[b9, eT (l:=r) q, List.count_cons]
  show(if q=p then u.cnt q+1 else u.cnt q)+_=_
  by_cases h:q=p
  ·rw[if_pos h, h];simp;omega
  ·rw[if_neg h]
   have:(p==q)=false:=beq_eq_false_iff_ne.2 (fun e=>h e.symm)
   rw[this];simp
theorem Bs (n:Nat):∀{l:List Nat} {u:Uf}, u.l n <+: (b9 c u l).l n
 | [], _=>List.prefix_refl _
 | p::r, u=>(List.prefix_append (u.l n) _).trans (Bs n (l:=r) (u:=ao c u p))
theorem IV (hc:a8 c):∀{l:List Nat} {u:Uf}, jo c u l→∀{p:Nat}, p<c.procs.length→iB c u p=true →
  ∃m, jo c (ao c u p) m∧((p∈l∧(∀x, m.count x=l.count x-(if x=p then 1 else 0))∧b9 c (ao c u p) m=b9 c u l) ∨
   (p∉l∧(∀x, m.count x=l.count x)∧iB c (b9 c u l) p=true∧b9 c (ao c u p) m=ao c (b9 c u l) p))
 | [], u, _, p, hp, hcan=>⟨[], trivial, .inr ⟨by simp, fun _=>rfl, hcan, rfl⟩⟩
 | q::r, u, ⟨hq, hcq, hr⟩, p, hp, hcan=>by
  by_cases hpq:p=q
  ·subst hpq
   refine⟨r, hr, .inl ⟨List.mem_cons_self, fun x=>?_, rfl⟩⟩
   rw[List.count_cons]
   by_cases h:x=p
   ·rw[if_pos h, h];simp
   ·have:(p==x)=false:=beq_eq_false_iff_ne.2 (fun e=>h e.symm)
    rw[if_neg h, this];simp
  ·obtain⟨m, h1, h2⟩:=IV hc (l:=r) hr hp (Br hc hq hp (Ne.symm hpq) hcan)
   have hd:=Re hc hp hq hpq hcan hcq
   refine⟨q::m, ⟨hq, Br hc hp hq hpq hcq, by rw[hd];exact h1⟩, ?_⟩
   have e:b9 c (ao c u p) (q::m)=b9 c (ao c (ao c u q) p) m:=by rw[b9, hd]
   rcases h2 with ⟨a, b, d⟩ | ⟨a, b, d, f⟩
   ·refine .inl ⟨List.mem_cons_of_mem _ a, fun x=>?_, by rw[e];exact d⟩
    rw[List.count_cons, List.count_cons, b x]
    by_cases h:x=p
    ·have h0:0<r.count x:=by rw[h];exact List.count_pos_iff.2 a
     rw[if_pos h];omega
    ·rw[if_neg h];omega
   ·refine .inr ⟨fun hm=>?_, fun x=>by rw[List.count_cons, List.count_cons, b x], d, by rw[e];exact f⟩
    rcases List.mem_cons.1 hm with h | h
    ·exact hpq h
    ·exact a h
theorem Q3 (hc:a8 c):∀{l m:List Nat} {u:Uf}, jo c u l→jo c u m →
  ∃l' m', jo c (b9 c u l) m'∧jo c (b9 c u m) l'∧b9 c (b9 c u l) m'=b9 c (b9 c u m) l'∧(∀x, m'.count x=m.count x-l.count x)∧∀x, l'.count x=l.count x-m.count x
 | [], m, u, _, hm=>⟨[], m, hm, trivial, rfl, fun x=>by simp, fun x=>by simp⟩
 | p::r, m, u, ⟨hp, hcan, hr⟩, hm=>by
  obtain⟨m1, h1, h2⟩:=IV hc hm hp hcan
  obtain⟨l1, m', a1, a2, a3, a4, a5⟩:=Q3 hc (l:=r) (m:=m1) hr h1
  have hcp:∀x, (p::r).count x=r.count x+(if x=p then 1 else 0):=fun x=>by
   rw[List.count_cons]
   by_cases h:x=p
   ·rw[if_pos h, h];simp
   ·have:(p==x)=false:=beq_eq_false_iff_ne.2 (fun e=>h e.symm)
    rw[if_neg h, this];simp
  rcases h2 with ⟨b1, b2, b3⟩ | ⟨b1, b2, b3, b4⟩
  ·refine⟨l1, m', a1, by rw[← b3];exact a2, by rw[b9, a3, b3], fun x=>?_, fun x=>?_⟩
   ·rw[a4, b2, hcp];omega
   ·rw[a5, b2, hcp]
    by_cases h:x=p
    ·have h0:0<m.count x:=by rw[h];exact List.count_pos_iff.2 b1
     rw[if_pos h];omega
    ·rw[if_neg h];omega
  ·have h0:m.count p=0:=List.count_eq_zero.2 b1
   refine⟨p::l1, m', a1, ⟨hp, b3, by rw[← b4];exact a2⟩, ?_, fun x=>?_, fun x=>?_⟩
   ·show b9 c (b9 c (ao c u p) r) m'=b9 c (ao c (b9 c u m) p) l1
    rw[a3, b4]
   ·rw[a4, b2, hcp]
    by_cases h:x=p
    ·rw[if_pos h, h];omega
    ·rw[if_neg h];omega
   ·rw[List.count_cons, a5, b2, hcp]
    by_cases h:x=p
    ·rw[if_pos h, h];simp;omega
    ·have:(p==x)=false:=beq_eq_false_iff_ne.2 (fun e=>h e.symm)
     rw[if_neg h, this];simp
structure NX (c:Ci) (n:Nat) (u:Uf) (l:List Nat):Prop where
 can:jo c u l
 le:∀p, l.count p≤n
 stop:∀p, p<c.procs.length→iB c (b9 c u l) p=true→n≤l.count p
theorem zO {l:List Nat} (h:∀x, l.count x=0):l=[]:=by
 cases l with
 | nil=>rfl
 | cons a r=>have:=h a;rw[List.count_cons]at this;simp at this
theorem Dq (hc:a8 c) {l m:List Nat} (h:NX c n u l) (hm:jo c u m) (hle:∀p, m.count p≤n):∃l', jo c (b9 c u m) l'∧b9 c (b9 c u m) l'=b9 c u l∧∀p, m.count p≤l.count p:=by
 obtain⟨l', m', a1, a2, a3, a4, a5⟩:=Q3 hc h.can hm
 have hnil:m'=[]:=by
  cases m' with
  | nil=>rfl
  | cons p r =>
   exfalso
   have h1:=a4 p
   rw[List.count_cons]at h1
   have h2:=h.stop p a1.1 a1.2.1
   have h3:=hle p
   simp at h1
   omega
 subst hnil
 refine⟨l', a2, a3.symm, fun p=>?_⟩
 have:=a4 p
 simp at this
 omega
theorem OP (hc:a8 c) {l m:List Nat} (h:NX c n u l) (k:NX c n u m):b9 c u l=b9 c u m∧∀p, l.count p=m.count p:=by
 obtain⟨l', a1, a2, a3⟩:=Dq hc h k.can k.le
 obtain⟨m', b1, b2, b3⟩:=Dq hc k h.can h.le
 have hcnt:∀p, l.count p=m.count p:=fun p=>Nat.le_antisymm (b3 p) (a3 p)
 have hnil:l'=[]:=by
  refine zO fun x=>?_
  have h1:=eT (c:=c) (l:=l') (u:=b9 c u m) x
  rw[a2, eT, eT, hcnt x]at h1
  omega
 subst hnil
 exact⟨a2.symm, hcnt⟩
end
end Go.Proofs.YtckgpflobhpnpaaGreat
