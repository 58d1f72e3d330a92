/-
  The streams of a circuit; greater capacities, longer inputs.
-/
import Derived.Test.YtckgpflobhpnpaaGreatQNeN
import Derived.Test.YtckgpflobhpnpaaGreatQStB
namespace Go.Proofs.YtckgpflobhpnpaaGreat
open Go.RowKit
set_option linter.unusedVariables false
set_option linter.unusedSimpArgs false
theorem vn {p:Pr} (hp:fq p):pU p (aI p) where
 rl:=by simp[aI]
 rv:=fun i hi=>by
  rw[show(aI p).regs=p.regs.map (·.init)from rfl]
  have:=(hp.rw i hi).2.1
  simpa[List.getD, List.getElem?_map, List.getElem?_eq_getElem hi]using this
 ml:=by simp[aI]
 mn:=fun i hi=>by
  have h2:=(hp.mw i hi).2.1
  rw[show(aI p).mems=p.mems.map (fun m=>List.replicate m.words.toNat 0)from rfl]
  have:(p.mems.map (fun m=>List.replicate m.words.toNat (0:Int))).getD i []=List.replicate (lP p i).words.toNat 0:=by
   simp[List.getD, List.getElem?_map, List.getElem?_eq_getElem hi]
  rw[this, List.length_replicate];omega
 mv:=fun i hi j hj=>by
  rw[show(aI p).mems=p.mems.map (fun m=>List.replicate m.words.toNat 0)from rfl]at hj ⊢
  have:(p.mems.map (fun m=>List.replicate m.words.toNat (0:Int))).getD i []=List.replicate (lP p i).words.toNat 0:=by
   simp[List.getD, List.getElem?_map, List.getElem?_eq_getElem hi]
  rw[this, cL]
  exact pV (hp.mw i hi).1
theorem GM {c:Ci} (hc:a6 c):j6 c (gi c) where
 pl:=by simp[gi, ao]
 cl:=by simp[gi]
 pv:=fun i hi=>by
  show pU _ ((tab _ _).getD i bB)
  rw[aE hi];exact vn (hc.pr i hi)
 cv:=fun n hn i hi=>by
  have h0:xY (gi c) n=[]:=by show(List.replicate _ _).getD n []=[];exact cL
  rw[h0]at hi;simp at hi
 cc:=fun n hn h1 h2=>by
  have h0:xY (gi c) n=[]:=by show(List.replicate _ _).getD n []=[];exact cL
  rw[h0]
  simpa using hc.cp n hn
theorem KU {b:List Int} {i:Nat} {w:Int} {k:Nat} (h1:1≤w) (h2:w≤62):dt (mR b i w k) w:=by
 unfold mR dt
 rw[dq (by omega) h2]
 have hp:(0:Int)<2^w.toNat:=Int.pow_pos (by omega)
 exact⟨Int.emod_nonneg _ (by omega), by have:=Int.emod_lt_of_pos (b.getD (i+(1+k)) 0) hp;omega⟩
def eP (n:Nat) (cnt:Nat→Nat):Nat→Nat
 | 0=>0
 | P+1=>eP n cnt P+(n-cnt P)
theorem rj {n p:Nat} {cnt:Nat→Nat} (h:cnt p<n):∀P, eP n (fun q=>if q=p then cnt q+1 else cnt q) P+(if p<P then 1 else 0)=eP n cnt P
 | 0=>rfl
 | P+1=>by
  have ih:=rj (p:=p) h P
  rw[eP, eP]
  by_cases e:P=p
  ·subst e
   rw[if_neg (Nat.lt_irrefl _)]at ih
   rw[if_pos (Nat.lt_succ_self _)]
   simp only[if_true]
   omega
  ·simp only[if_neg e]
   by_cases g:p<P
   ·rw[if_pos g]at ih;rw[if_pos (by omega)];omega
   ·rw[if_neg g]at ih;rw[if_neg (by omega)];omega
theorem yl (n:Nat) (cnt:Nat→Nat):∀P, eP n cnt P≤n*P
 | 0=>Nat.le_refl _
 | P+1=>by have:=yl n cnt P;rw[eP, Nat.mul_succ];omega
def Di (c:Ci) (n:Nat) (u:Uf):Option Nat:=(List.range c.procs.length).find? (fun p=>ft c u p&&decide (u.cnt p<n))
def HA (c:Ci) (n:Nat):Nat→Uf→List Nat
 | 0, _=>[]
 | k+1, u=>match Di c n u with
  | some p=>p::HA c n k (aj c u p)
  | none=>[]
section
variable {c:Ci} {u v:Uf} {p n:Nat}
theorem EB (h:Di c n u=some p):p<c.procs.length∧ft c u p=true∧u.cnt p<n:=by
 have h1:=List.mem_of_find?_eq_some h
 have h2:=List.find?_some h
 rw[Bool.and_eq_true, decide_eq_true_eq]at h2
 exact⟨List.mem_range.1 h1, h2.1, h2.2⟩
theorem EC (h:Di c n u=none):∀p, p<c.procs.length→ft c u p=true→n≤u.cnt p:=by
 intro p hp hcan
 have:=List.find?_eq_none.1 h p (List.mem_range.2 hp)
 rw[hcan, Bool.true_and, decide_eq_true_eq]at this
 omega
theorem Jy:∀(k:Nat) (u:Uf), eP n u.cnt c.procs.length≤k→kd c u (HA c n k u)∧(∀q, u.cnt q≤n→(cm c u (HA c n k u)).cnt q≤n)∧∀p, p<c.procs.length→ft c (cm c u (HA c n k u)) p=true→n≤(cm c u (HA c n k u)).cnt p
 | 0, u, h=>by
  refine⟨trivial, fun q hq=>hq, fun p hp _=>?_⟩
  refine Nat.not_lt.1 fun hlt=>?_
  have hlt2:u.cnt p<n:=hlt
  have:=rj hlt2 c.procs.length
  rw[if_pos hp]at this
  omega
 | k+1, u, h=>by
  rw[HA]
  cases hk:Di c n u with
  | none=>exact⟨trivial, fun q hq=>hq, EC hk⟩
  | some p =>
   obtain⟨h1, h2, h3⟩:=EB hk
   have hr:=rj h3 c.procs.length
   rw[if_pos h1]at hr
   obtain⟨a, b, d⟩:=Jy k (aj c u p) (by show eP n (fun q=>if q=p then u.cnt q+1 else u.cnt q) c.procs.length≤k;omega)
   refine⟨⟨h1, h2, a⟩, fun q hq=>b q ?_, d⟩
   show(if q=p then u.cnt q+1 else u.cnt q)≤n
   split
   ·rename_i e;rw[e];omega
   ·exact hq
def u0 (c:Ci) (inp:List (List Int)):Uf:=⟨fun p=>if p<c.procs.length then aI (bc c p)else bB, fun n=>inp.getD n [], fun _=>0, fun _=>0⟩
def ED (c:Ci) (inp:List (List Int)) (n:Nat):List Nat:=HA c n (n*c.procs.length) (u0 c inp)
def dk (c:Ci) (inp:List (List Int)) (n:Nat):Uf:=cm c (u0 c inp) (ED c inp n)
theorem GN (c:Ci) (inp:List (List Int)) (n:Nat):Mi c n (u0 c inp) (ED c inp n):=by
 obtain⟨a, b, d⟩:=Jy (c:=c) (n:=n) (n*c.procs.length) (u0 c inp) (yl _ _ _)
 have hc:∀q, (cm c (u0 c inp) (ED c inp n)).cnt q=(ED c inp n).count q:=fun q=>by rw[gG];show 0+_=_;omega
 exact⟨a, fun q=>by rw[← hc];exact b q (Nat.zero_le _), fun p hp hcan=>by rw[← hc];exact d p hp hcan⟩
theorem KV (hc:a6 c) {inp:List (List Int)} {l:List Nat} (h:Mi c n (u0 c inp) l):cm c (u0 c inp) l=dk c inp n:=(Mj hc h (GN c inp n)).1
structure oX (c:Ci) (inp:List (List Int)):Prop where
 l:inp.length=c.chans.length
 ex:∀n, n<c.chans.length→(fT c n).frm≠-1→inp.getD n []=[]
 fv:∀n, n<c.chans.length→∀i, i<(inp.getD n []).length→dt ((inp.getD n []).getD i 0) (fT c n).w
 sm:∀n, (inp.getD n []).length≤1000
def HB (c:Ci) (inp:List (List Int)):Ns:=⟨(gi c).procs, inp⟩
theorem Jz (hc:a6 c) {inp:List (List Int)} (h:oX c inp):j6 c (HB c inp):=by
 have h0:=GM hc
 refine⟨h0.pl, h.l, h0.pv, h.fv, fun n hn hf hd=>?_⟩
 show((inp.getD n []).length:Int)≤_
 rw[h.ex n hn (by omega)]
 exact hc.cp n hn
theorem Mn (c:Ci) {inp:List (List Int)}:NU c (HB c inp) (u0 c inp):=by
 refine⟨fun p hp=>?_, fun n hn=>rfl, fun n hn=>Nat.zero_le _⟩
 show(gi c).procs.getD p bB=if p<c.procs.length then aI (bc c p)else bB
 rw[if_pos hp]
 exact aE hp
end
end Go.Proofs.YtckgpflobhpnpaaGreat
