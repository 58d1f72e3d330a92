/-
  The streams of a circuit; greater capacities, longer inputs.
-/
import Derived.Test.YtckgpflobhpnpaaGreatQNeN
namespace Go.Proofs.YtckgpflobhpnpaaGreat
open Go.RowKit
set_option linter.unusedVariables false
set_option linter.unusedSimpArgs false
theorem BA {p:Pr} (hp:gW p):qI p (aR p) where
 rl:=by simp[aR]
 rv:=fun i hi=>by
  rw[show(aR p).regs=p.regs.map (·.init)from rfl]
  have:=(hp.rw i hi).2.1
  simpa[List.getD, List.getElem?_map, List.getElem?_eq_getElem hi]using this
 ml:=by simp[aR]
 mn:=fun i hi=>by
  have h2:=(hp.mw i hi).2.1
  rw[show(aR p).mems=p.mems.map (fun m=>List.replicate m.words.toNat 0)from rfl]
  have:(p.mems.map (fun m=>List.replicate m.words.toNat (0:Int))).getD i []=List.replicate (mZ p i).words.toNat 0:=by
   simp[List.getD, List.getElem?_map, List.getElem?_eq_getElem hi]
  rw[this, List.length_replicate];omega
 mv:=fun i hi j hj=>by
  rw[show(aR p).mems=p.mems.map (fun m=>List.replicate m.words.toNat 0)from rfl]at hj ⊢
  have:(p.mems.map (fun m=>List.replicate m.words.toNat (0:Int))).getD i []=List.replicate (mZ p i).words.toNat 0:=by
   simp[List.getD, List.getElem?_map, List.getElem?_eq_getElem hi]
  rw[this, bS]
  exact qJ (hp.mw i hi).1
theorem I7 {c:Ci} (hc:a8 c):fa c (du c) where
 pl:=by simp[du, aq]
 cl:=by simp[du]
 pv:=fun i hi=>by
  show qI _ ((tab _ _).getD i bI)
  rw[aC hi];exact BA (hc.pr i hi)
 cv:=fun n hn i hi=>by
  have h0:lU (du c) n=[]:=by show(List.replicate _ _).getD n []=[];exact bS
  rw[h0]at hi;simp at hi
 cc:=fun n hn h1 h2=>by
  have h0:lU (du c) n=[]:=by show(List.replicate _ _).getD n []=[];exact bS
  rw[h0]
  simpa using hc.cp n hn
theorem No {b:List Int} {i:Nat} {w:Int} {k:Nat} (h1:1≤w) (h2:w≤62):dV (oe b i w k) w:=by
 unfold oe dV
 rw[db (by omega) h2]
 have hp:(0:Int)<2^w.toNat:=Int.pow_pos (by omega)
 exact⟨Int.emod_nonneg _ (by omega), by have:=Int.emod_lt_of_pos (b.getD (i+(1+k)) 0) hp;omega⟩
def hC (n:Nat) (cnt:Nat→Nat):Nat→Nat
 | 0=>0
 | P+1=>hC n cnt P+(n-cnt P)
theorem sx {n p:Nat} {cnt:Nat→Nat} (h:cnt p<n):∀P, hC n (fun q=>if q=p then cnt q+1 else cnt q) P+(if p<P then 1 else 0)=hC n cnt P
 | 0=>rfl
 | P+1=>by
  have ih:=sx (p:=p) h P
  rw[hC, hC]
  by_cases e:P=p
  ·subst e
   rw[if_neg (Nat.lt_irrefl _)]at ih
   rw[if_pos (Nat.lt_succ_self _)]
   simp only[if_true]
   omega
  ·simp only[if_neg e]
   by_cases g:p<P
   ·rw[if_pos g]at ih;rw[if_pos (by omega)];omega
   ·rw[if_neg g]at ih;rw[if_neg (by omega)];omega
theorem Du (n:Nat) (cnt:Nat→Nat):∀P, hC n cnt P≤n*P
 | 0=>Nat.le_refl _
 | P+1=>by have:=Du n cnt P;rw[hC, Nat.mul_succ];omega
def Fg (c:Ci) (n:Nat) (u:Uf):Option Nat:=(List.range c.procs.length).find? (fun p=>iB c u p&&decide (u.cnt p<n))
def JZ (c:Ci) (n:Nat):Nat→Uf→List Nat
 | 0, _=>[]
 | k+1, u=>match Fg c n u with
  | some p=>p::JZ c n k (ao c u p)
  | none=>[]
section
variable {c:Ci} {u v:Uf} {p n:Nat}
theorem GB (h:Fg c n u=some p):p<c.procs.length∧iB c u p=true∧u.cnt p<n:=by
 have h1:=List.mem_of_find?_eq_some h
 have h2:=List.find?_some h
 rw[Bool.and_eq_true, decide_eq_true_eq]at h2
 exact⟨List.mem_range.1 h1, h2.1, h2.2⟩
theorem GD (h:Fg c n u=none):∀p, p<c.procs.length→iB c u p=true→n≤u.cnt p:=by
 intro p hp hcan
 have:=List.find?_eq_none.1 h p (List.mem_range.2 hp)
 rw[hcan, Bool.true_and, decide_eq_true_eq]at this
 omega
theorem L1:∀(k:Nat) (u:Uf), hC n u.cnt c.procs.length≤k→jo c u (JZ c n k u)∧(∀q, u.cnt q≤n→(b9 c u (JZ c n k u)).cnt q≤n)∧∀p, p<c.procs.length→iB c (b9 c u (JZ c n k u)) p=true→n≤(b9 c u (JZ c n k u)).cnt p
 | 0, u, h=>by
  refine⟨trivial, fun q hq=>hq, fun p hp _=>?_⟩
  refine Nat.not_lt.1 fun hlt=>?_
  have hlt2:u.cnt p<n:=hlt
  have:=sx hlt2 c.procs.length
  rw[if_pos hp]at this
  omega
 | k+1, u, h=>by
  rw[JZ]
  cases hk:Fg c n u with
  | none=>exact⟨trivial, fun q hq=>hq, GD hk⟩
  | some p =>
   obtain⟨h1, h2, h3⟩:=GB hk
   have hr:=sx h3 c.procs.length
   rw[if_pos h1]at hr
   obtain⟨a, b, d⟩:=L1 k (ao c u p) (by show hC n (fun q=>if q=p then u.cnt q+1 else u.cnt q) c.procs.length≤k;omega)
   refine⟨⟨h1, h2, a⟩, fun q hq=>b q ?_, d⟩
   show(if q=p then u.cnt q+1 else u.cnt q)≤n
   split
   ·rename_i e;rw[e];omega
   ·exact hq
def u0 (c:Ci) (inp:List (List Int)):Uf:=⟨fun p=>if p<c.procs.length then aR (bj c p)else bI, fun n=>inp.getD n [], fun _=>0, fun _=>0⟩
def Dv (c:Ci) (inp:List (List Int)) (n:Nat):List Nat:=JZ c n (n*c.procs.length) (u0 c inp)
def cj (c:Ci) (inp:List (List Int)) (n:Nat):Uf:=b9 c (u0 c inp) (Dv c inp n)
theorem Dw (c:Ci) (inp:List (List Int)) (n:Nat):NX c n (u0 c inp) (Dv c inp n):=by
 obtain⟨a, b, d⟩:=L1 (c:=c) (n:=n) (n*c.procs.length) (u0 c inp) (Du _ _ _)
 have hc:∀q, (b9 c (u0 c inp) (Dv c inp n)).cnt q=(Dv c inp n).count q:=fun q=>by rw[eT];show 0+_=_;omega
 exact⟨a, fun q=>by rw[← hc];exact b q (Nat.zero_le _), fun p hp hcan=>by rw[← hc];exact d p hp hcan⟩
theorem K5 (c:Ci) (inp:List (List Int)) (n q:Nat):(cj c inp n).cnt q=(Dv c inp n).count q:=by
 unfold cj;rw[eT];show 0+_=_;omega
theorem I8 (hc:a8 c) {inp:List (List Int)} {l:List Nat} (h:NX c n (u0 c inp) l):b9 c (u0 c inp) l=cj c inp n:=(OP hc h (Dw c inp n)).1
theorem GE (hc:a8 c) {inp:List (List Int)} {m:List Nat} (hm:jo c (u0 c inp) m) (hle:∀p, m.count p≤n):(∀k, (b9 c (u0 c inp) m).l k <+: (cj c inp n).l k)∧∀p, m.count p≤(cj c inp n).cnt p:=by
 obtain⟨l', a1, a2, a3⟩:=Dq hc (Dw c inp n) hm hle
 refine⟨fun k=>?_, fun p=>by rw[K5];exact a3 p⟩
 have:=Bs (c:=c) k (l:=l') (u:=b9 c (u0 c inp) m)
 rw[a2]at this
 exact this
structure jI (c:Ci) (inp:List (List Int)):Prop where
 l:inp.length=c.chans.length
 ex:∀n, n<c.chans.length→(cH c n).frm≠-1→inp.getD n []=[]
 fv:∀n, n<c.chans.length→∀i, i<(inp.getD n []).length→dV ((inp.getD n []).getD i 0) (cH c n).w
 sm:∀n, (inp.getD n []).length≤1000
def dg (c:Ci) (inp:List (List Int)):Ns:=⟨(du c).procs, inp⟩
theorem BB (hc:a8 c) {inp:List (List Int)} (h:jI c inp):fa c (dg c inp):=by
 have h0:=I7 hc
 refine⟨h0.pl, h.l, h0.pv, h.fv, fun n hn hf hd=>?_⟩
 show((inp.getD n []).length:Int)≤_
 rw[h.ex n hn (by omega)]
 exact hc.cp n hn
theorem L2 (c:Ci) {inp:List (List Int)}:NU c (dg c inp) (u0 c inp):=by
 refine⟨fun p hp=>?_, fun n hn=>rfl, fun n hn=>Nat.zero_le _⟩
 show(du c).procs.getD p bI=if p<c.procs.length then aR (bj c p)else bI
 rw[if_pos hp]
 exact aC hp
end
end Go.Proofs.YtckgpflobhpnpaaGreat
