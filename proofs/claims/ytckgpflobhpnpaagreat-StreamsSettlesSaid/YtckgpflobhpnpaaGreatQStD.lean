/-
  Settled networks, inputs that bytes describe, prefixes: plain laws of streams.
-/
import Derived.Test.YtckgpflobhpnpaaGreatQStC
namespace Go.Proofs.YtckgpflobhpnpaaGreat
open Go.RowKit
set_option linter.unusedVariables false
set_option linter.unusedSimpArgs false
section
variable {c:Ci} {s:Ns} {u:Uf} {p n:Nat}
theorem Fh (hc:a8 c):∀{l:List Nat} {s:Ns} {u:Uf}, NU c s u→zD c s l→jo c u l∧NU c (xo c s l) (b9 c u l)
 | [], _, _, h, _=>⟨trivial, h⟩
 | p::r, s, u, h, ⟨hp, hcan, hr⟩=>by
  obtain⟨a, b⟩:=Fh hc (l:=r) (I0 hc h hp hcan) hr
  exact⟨⟨hp, IW hc h hp hcan, a⟩, b⟩
theorem Dx:∀{n:Nat} {s:Ns} {cnt:List Int}, cnt.length=c.procs.length →
  ∃l, l.length≤n∧zD c s l∧xo c s l=(df c n s cnt).1∧(df c n s cnt).2.1.length=c.procs.length∧(∀q, q<c.procs.length→(df c n s cnt).2.1.getD q 0=cnt.getD q 0+(l.count q:Nat))∧((df c n s cnt).2.2=0→M4 c (df c n s cnt).1):=by
 intro n
 induction n with
 | zero =>
  intro s cnt hl
  by_cases hf:d6 c s<0
  ·rw[lV hf]
   rcases nY c s with ⟨h1, h2⟩ | ⟨p, h1, _⟩
   ·exact⟨[], Nat.le_refl _, trivial, rfl, hl, fun q hq=>by simp, fun _=>h2⟩
   ·omega
  ·rw[lW hf];exact⟨[], Nat.le_refl _, trivial, rfl, hl, fun q hq=>by simp, fun h=>by cases h⟩
 | succ n ih =>
  intro s cnt hl
  by_cases hf:d6 c s<0
  ·rw[lV hf]
   rcases nY c s with ⟨h1, h2⟩ | ⟨p, h1, _⟩
   ·exact⟨[], Nat.zero_le _, trivial, rfl, hl, fun q hq=>by simp, fun _=>h2⟩
   ·omega
  ·rw[yq hf]
   rcases nY c s with ⟨h1, h2⟩ | ⟨p, h1, hp, hcan⟩
   ·omega
   ·rw[h1, Int.toNat_natCast]
    obtain⟨l, g1, g2, g3, g5, g6, g7⟩:=ih (s:=bf c s (cm p)) (cnt:=cnt.set p (cnt.getD p 0+1)) (by simpa using hl)
    refine⟨p::l, by simp;omega, ⟨hp, hcan, g2⟩, g3, g5, fun q hq=>?_, g7⟩
    rw[g6 q hq, cu (by omega), List.count_cons]
    by_cases e:p=q
    ·subst e;simp;omega
    ·rw[if_neg e];simp[e]
theorem BC (hc:a8 c) (hd:(cH c n).dst=-1):∀{l:List Nat} {u:Uf}, jo c u l→(b9 c u l).rd n=u.rd n
 | [], _, _=>rfl
 | p::r, u, ⟨hp, hcan, hr⟩=>by
  rw[b9, BC hc hd hr]
  show u.rd n+jn c p _ n=_
  by_cases h0:jn c p (ge c u p) n=0
  ·rw[h0];rfl
  ·have:=Bq hc hp h0
   rw[hd]at this;omega
theorem K6 (hc:a8 c) (h:NU c s u) (hp:p<c.procs.length) (hroom:∀m, m<c.chans.length→(cH c m).frm=p→(cH c m).dst=-1∨((lU s m).length:Int)<(cH c m).cap) (hcan:iB c u p=true):dj c s p=true:=by
 unfold iB ge at hcan
 rw[qL]
 rw[lQ]at hcan
 have hr:qK c s p=Dp c p:=by
  unfold qK Dp
  apply List.ext_getElem
  ·rw[aq, List.length_replicate]
  ·intro j h1 h2
   rw[aq]at h1
   have hf:=(hc.pt p hp j h1).2.2.2
   have:=hroom _ (LV hc hp h1) hf
   have e:=aC (f:=cX c s p) (n:=(bj c p).puts.length) (d:=false) h1
   rw[d9 _ _ (by rw[aq];exact h1)]at e
   rw[e, List.getElem_replicate]
   unfold cX
   rcases this with h3 | h3
   ·rw[decide_eq_true h3];rfl
   ·rw[decide_eq_true h3, Bool.or_true]
 rw[Bt hc h hp, hr, h.ps p hp]
 exact hcan
theorem K7 (hc:a8 c) {inp:List (List Int)} {l:List Nat} (hl:zD c (dg c inp) l) (hle:l.length≤99) :
  (∀p, l.count p≤(cj c inp 100).cnt p)∧(∀m, m<c.chans.length→(cH c m).dst=-1→lU (xo c (dg c inp) l) m <+: (cj c inp 100).l m) ∧
  (M4 c (xo c (dg c inp) l)→(∀m, m<c.chans.length→(cH c m).dst=-1∨(cH c m).frm<0∨((lU (xo c (dg c inp) l) m).length:Int)<(cH c m).cap)→(∀p, (l.count p:Nat)=(cj c inp 100).cnt p)∧∀m, m<c.chans.length→(cH c m).dst=-1→lU (xo c (dg c inp) l) m=(cj c inp 100).l m):=by
 obtain⟨a, b⟩:=Fh hc (L2 c (inp:=inp)) hl
 have hcnt:∀p, l.count p≤99:=fun p=>Nat.le_trans List.count_le_length hle
 obtain⟨k1, k2⟩:=GE (n:=100) hc a (fun p=>Nat.le_trans (hcnt p) (by decide))
 have hw:∀m, m<c.chans.length→(cH c m).dst=-1→lU (xo c (dg c inp) l) m=(b9 c (u0 c inp) l).l m:=fun m hm hd=>by
  rw[b.wd m hm, BC hc hd a];rfl
 refine⟨k2, fun m hm hd=>by rw[hw m hm hd];exact k1 m, fun ht hroom=>?_⟩
 have hmx:NX c 100 (u0 c inp) l:=⟨a, fun p=>Nat.le_trans (hcnt p) (by decide), fun p hp hcan=>by
  exfalso
  have h1:=K6 hc b hp (fun m hm hf=>by
   rcases hroom m hm with h | h | h
   ·exact .inl h
   ·omega
   ·exact .inr h) hcan
  rw[ht p hp]at h1;cases h1⟩
 have he:=I8 hc hmx
 refine⟨fun p=>?_, fun m hm hd=>by rw[hw m hm hd, he]⟩
 have:=eT (c:=c) (l:=l) (u:=u0 c inp) p
 rw[he]at this
 rw[this];show _=0+_;omega
def L3 (c:Ci) (b:List Int) (q n:Nat):Nat:=if (cH c n).frm<0 then (b.getD q 0%8).toNat else 0
def inQ (c:Ci) (b:List Int):Nat→Nat
 | 0=>0
 | n+1=>if (cH c n).frm<0 then inQ c b n+(1+(b.getD (inQ c b n) 0%8).toNat)else inQ c b n
def tJ (c:Ci) (b:List Int) (n:Nat):List Int:=tab (oe b (inQ c b n) (cH c n).w) (L3 c b (inQ c b n) n)
def aA (c:Ci) (b:List Int):List (List Int):=tab (tJ c b) c.chans.length
theorem Np (c:Ci) {b:List Int} (hb:rS b) (q n:Nat):L3 c b q n≤7:=by
 have:=eY hb q
 unfold L3;split<;>omega
theorem OS (hc:a8 c) {b:List Int} (hb:rS b) (hf:∀n, n<c.chans.length→-1≤(cH c n).frm):jI c (aA c b):=by
 have hat:∀n, n<c.chans.length→(aA c b).getD n []=tJ c b n:=fun n hn=>aC hn
 refine⟨aq _ _, fun n hn h=>?_, fun n hn i hi=>?_, fun n=>?_⟩
 ·rw[hat n hn]
  unfold tJ L3
  rw[if_neg (by have:=hf n hn;omega)];rfl
 ·rw[hat n hn]at hi ⊢
  unfold tJ at hi ⊢
  rw[aq]at hi
  rw[aC hi]
  have hw:=bn.1 (hc.cw n hn)
  exact No hw.1 (by omega)
 ·by_cases hn:n<c.chans.length
  ·rw[hat n hn]
   unfold tJ
   rw[aq]
   exact Nat.le_trans (Np c hb _ _) (by decide)
  ·rw[show(aA c b).getD n []=[]from zy (by omega)];exact Nat.zero_le _
def dP:List Int→List Int→Nat
 | x::a, y::b=>if x=y then dP a b+1 else 0
 | _, _=>0
theorem I9:∀a b, dP a b≤a.length∧dP a b≤b.length
 | [], _=>⟨Nat.zero_le _, Nat.zero_le _⟩
 | x::a, []=>⟨Nat.zero_le _, Nat.zero_le _⟩
 | x::a, y::b=>by
  have:=I9 a b
  rw[dP];split<;>simp<;>omega
theorem zY:∀a b:List Int, ¬dP a b<a.length↔a <+: b
 | [], b=>⟨fun _=>List.nil_prefix, fun _=>by simp⟩
 | x::a, []=>⟨fun h=>absurd (show dP (x::a) []<(x::a).length from Nat.succ_pos _) h, fun h=>by simp at h⟩
 | x::a, y::b=>by
  rw[List.cons_prefix_cons, ← zY a b, dP]
  split
  ·rename_i h;simp[h]
  ·rename_i h;simp[h]
theorem Ja:∀{a b:List Int} {i:Nat}, i<dP a b→a.getD i 0=b.getD i 0
 | [], _, _, h=>by simp[dP]at h
 | x::a, [], _, h=>by simp[dP]at h
 | x::a, y::b, i, h=>by
  rw[dP]at h
  split at h
  ·rename_i e
   cases i with
   | zero=>simpa using e
   | succ i =>
    have:=Ja (a:=a) (b:=b) (i:=i) (by omega)
    simpa using this
  ·omega
theorem Jb:∀{a b:List Int}, dP a b<a.length→dP a b<b.length→a.getD (dP a b) 0≠b.getD (dP a b) 0
 | [], _, h, _=>by simp at h
 | x::a, [], _, h=>by simp at h
 | x::a, y::b, h, k=>by
  rw[dP]at h k ⊢
  split
  ·rename_i e
   rw[if_pos e]at h k
   have:=Jb (a:=a) (b:=b) (by simpa using h) (by simpa using k)
   simpa using this
  ·rename_i e;simpa using e
theorem tK {a b:List Int} {i:Nat} (h1:i≤a.length) (h2:i≤b.length) (h:∀j, j<i→a.getD j 0=b.getD j 0) (h3:¬(i<a.length∧i<b.length∧a.getD i 0=b.getD i 0)):dP a b=i:=by
 rcases Nat.lt_trichotomy (dP a b) i with h4 | h4 | h4
 ·exact absurd (h _ h4) (Jb (by omega) (by omega))
 ·exact h4
 ·have:=I9 a b
  exact absurd ⟨by omega, by omega, Ja h4⟩ h3
def eK (a b:List (List Int)):Bool:=decide (a.length=b.length)&&dG (fun i=>!decide (dP (a.getD i []) (b.getD i [])<(a.getD i []).length)) a.length
theorem K8 {a b:List (List Int)}:eK a b=true↔a.length=b.length∧∀i, i<a.length→a.getD i [] <+: b.getD i []:=by
 unfold eK
 rw[Bool.and_eq_true, decide_eq_true_eq, bL]
 refine⟨fun ⟨h1, h2⟩=>⟨h1, fun i hi=>(zY _ _).1 ?_⟩, fun ⟨h1, h2⟩=>⟨h1, fun i hi=>?_⟩⟩
 ·have:=h2 i hi;simpa using this
 ·have:=(zY _ _).2 (h2 i hi)
  rw[decide_eq_false this];rfl
def uK (a b:List (List Int)):Nat→Nat→Int×Int×Bool
 | 0, _=>(0, 0, false)
 | m+1, i=>if dP (a.getD i []) (b.getD i [])<min (a.getD i []).length (b.getD i []).length then ((i:Int), (dP (a.getD i []) (b.getD i []):Int), true)else uK a b m (i+1)
def dX (a b:List (List Int)):Int×Int×Bool:=uK a b (min a.length b.length) 0
theorem yD {a b:List (List Int)}:∀(m i:Nat), (uK a b m i=(0, 0, false)∧∀j, i≤j→j<i+m→¬dP (a.getD j []) (b.getD j [])<min (a.getD j []).length (b.getD j []).length) ∨
  ∃j:Nat, i≤j∧j<i+m∧uK a b m i=((j:Int), (dP (a.getD j []) (b.getD j []):Int), true)∧dP (a.getD j []) (b.getD j [])<min (a.getD j []).length (b.getD j []).length∧∀k, i≤k→k<j→¬dP (a.getD k []) (b.getD k [])<min (a.getD k []).length (b.getD k []).length
 | 0, i=>.inl ⟨rfl, fun j h1 h2=>by omega⟩
 | m+1, i=>by
  rw[uK]
  split
  ·rename_i h
   exact .inr ⟨i, Nat.le_refl _, by omega, rfl, h, fun k h1 h2=>by omega⟩
  ·rename_i h
   rcases yD (a:=a) (b:=b) m (i+1)with ⟨h1, h2⟩ | ⟨j, h1, h2, h3, h4, h5⟩
   ·refine .inl ⟨h1, fun j a1 a2=>?_⟩
    by_cases e:j=i
    ·subst e;exact h
    ·exact h2 j (by omega) (by omega)
   ·refine .inr ⟨j, by omega, by omega, h3, h4, fun k a1 a2=>?_⟩
    by_cases e:k=i
    ·subst e;exact h
    ·exact h5 k (by omega) a2
end
end Go.Proofs.YtckgpflobhpnpaaGreat
