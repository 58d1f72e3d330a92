/-
  Made circuits are well made.
-/
import Derived.Test.YtckgpflobhpnpaaGreatQStS
namespace Go.Proofs.YtckgpflobhpnpaaGreat
open Go.RowKit
set_option linter.unusedVariables false
set_option linter.unusedSimpArgs false
theorem FF {s:Sg} {b:List Int} (hb:rS b) (i:Nat):fq s.sc (aN s b i).1=some 1∧gd (aN s b i).1≤3:=by
 unfold aN
 split
 ·have h:=wt (s:=s) hb 2 (i+1) 1 (by omega) (by omega) (by omega)
  exact⟨h.1, by have:=h.2.1;omega⟩
 ·exact⟨rfl, by show gd fM≤3;decide⟩
theorem NM (y:Int) (f:Nat→Rg) (hf:∀k, (f k).w=bJ y k):(⟨(tab f (tI y)).map (·.w), [], []⟩:Sc)=(NZ y).sc:=by
 have:(tab f (tI y)).map (·.w)=NY y:=by
  unfold NY tab
  rw[List.map_map]
  exact List.map_congr_left (fun k _=>hf k)
 rw[this];rfl
theorem NN (y:Int) (n:Nat) (f:Nat→Rg) (g:Nat→Tk) (hf:∀k, (f k).w=bJ y k) (hg:∀k, (g k).w=2):(⟨(tab f (tI y)).map (·.w), [], (tab g n).map (·.w)⟩:Sc)=(Bv y n).sc:=by
 have e1:(tab f (tI y)).map (·.w)=NY y:=by
  unfold NY tab
  rw[List.map_map]
  exact List.map_congr_left (fun k _=>hf k)
 have e2:(tab g n).map (·.w)=List.replicate n 2:=by
  apply List.ext_getElem
  ·simp[aq]
  ·intro i h1 h2
   simp[tab, hg]
 rw[e1, e2];rfl
theorem Lw {b:List Int} (hb:rS b) {i:Nat} {nm:ByteArray} {e:En} (ht:e.takes.length≤2) (hp:e.puts.length≤2):gW (bz b i nm e).1:=by
 have hy:=eY hb i
 have hn:=Dr hy.1
 have hs0:Q2 (bz b i nm e).1=(NZ (b.getD i 0)).sc:=NM _ _ (fun k=>rfl)
 have hs1:rV (bz b i nm e).1=(Bv (b.getD i 0) e.takes.length).sc:=NN _ _ _ _ (fun k=>rfl) (fun k=>rfl)
 have l1:(bz b i nm e).1.regs.length=tI (b.getD i 0):=aq _ _
 have l2:(bz b i nm e).1.takes.length=e.takes.length:=aq _ _
 have l3:(bz b i nm e).1.puts.length=e.puts.length:=aq _ _
 have l4:(bz b i nm e).1.mems.length=0:=rfl
 refine⟨by omega, by omega, by omega, by omega, fun k hk=>?_, fun k hk=>by omega, fun k hk=>?_, fun k hk=>?_⟩
 ·rw[hs1]
  rw[l1]at hk
  have e1:Gk (bz b i nm e).1 k=Qw b (b.getD i 0) e.takes.length (od b i e) k:=aC hk
  rw[e1]
  have hw:=zW (b.getD i 0) k
  have h:=wt (s:=Bv (b.getD i 0) e.takes.length) hb 3 (zS b (b.getD i 0) e.takes.length (od b i e) k) (bJ (b.getD i 0) k) (by omega) (by omega) (by omega)
  refine⟨bn.2 (by show 1≤bJ (b.getD i 0) k∧bJ (b.getD i 0) k≤8;omega), ?_, h.1, by have:=h.2.1;show gd (ak _ b 3 _ _).1≤3;omega⟩
  show dV (b.getD i 0 / 8%2^(bJ (b.getD i 0) k).toNat) (bJ (b.getD i 0) k)
  unfold dV
  rw[db (by omega) (by omega)]
  have hp2:(0:Int)<2^(bJ (b.getD i 0) k).toNat:=Int.pow_pos (by omega)
  exact⟨Int.emod_nonneg _ (by omega), by have:=Int.emod_lt_of_pos (b.getD i 0 / 8) hp2;omega⟩
 ·rw[hs0]
  rw[l2]at hk
  have e1:mY (bz b i nm e).1 k=GS b (b.getD i 0) (i+1) e k:=aC hk
  rw[e1]
  exact⟨rfl, FF hb _⟩
 ·rw[hs1]
  rw[l3]at hk
  have e1:ub (bz b i nm e).1 k=JY b (b.getD i 0) e.takes.length (m4 b i e) e k:=aC hk
  rw[e1]
  have h:=wt (s:=Bv (b.getD i 0) e.takes.length) hb 2 (aN (Bv (b.getD i 0) e.takes.length) b (wR b (b.getD i 0) e.takes.length (m4 b i e) k)).2 2 (by omega) (by omega) (by omega)
  exact⟨rfl, FF hb _, h.1, by have:=h.2.1;show gd (ak _ b 2 _ _).1≤3;omega⟩
def Ph (l:List En):Prop:=∀i, i<l.length→∀j, j<(l.getD i cN).takes.length→0≤(l.getD i cN).takes.getD j 0∧(l.getD i cN).takes.getD j 0<su l l.length+1∧yB l ((l.getD i cN).takes.getD j 0) l.length=(i:Int)
def Pj (l:List En):Prop:=∀i, i<l.length→∀j, j<(l.getD i cN).puts.length→0≤(l.getD i cN).puts.getD j 0∧(l.getD i cN).puts.getD j 0<su l l.length+1∧yC l ((l.getD i cN).puts.getD j 0) l.length=(i:Int)
def Pk (l:List En):Prop:=∀i, i<l.length→∀j, j<(l.getD i cN).takes.length→∀k, k<(l.getD i cN).takes.length→(l.getD i cN).takes.getD j 0=(l.getD i cN).takes.getD k 0→j=k
def Pl (l:List En):Prop:=∀i, i<l.length→∀j, j<(l.getD i cN).puts.length→∀k, k<(l.getD i cN).puts.length→(l.getD i cN).puts.getD j 0=(l.getD i cN).puts.getD k 0→j=k
theorem Pm (sh:Int):Ph (ai sh)∧Pj (ai sh)∧Pk (ai sh)∧Pl (ai sh):=by
 unfold Ph Pj Pk Pl
 rcases jp sh with h | h | h | h | h | h<;>rw[h]<;>decide
theorem Ma {sh:Int} {b:List Int} (h0:0≤sh) (h1:sh≤255) (hb:rS b):a8 (aa sh b):=by
 have hpl:=Bz sh
 have hnc:=I4 sh
 obtain⟨q1, q2, q3, q4⟩:=Pm sh
 have lp:(aa sh b).procs.length=(ai sh).length:=aq _ _
 have lc:(aa sh b).chans.length=jH sh:=aq _ _
 have gp:∀i, i<(ai sh).length→bj (aa sh b) i=sO b (ai sh) i:=fun i hi=>aC hi
 have gc:∀n, n<jH sh→cH (aa sh b) n=uJ sh (ai sh) n:=fun n hn=>aC hn
 have ltk:∀i, (sO b (ai sh) i).takes.length=((ai sh).getD i cN).takes.length:=fun i=>aq _ _
 have lpt:∀i, (sO b (ai sh) i).puts.length=((ai sh).getD i cN).puts.length:=fun i=>aq _ _
 have ctk:∀i j, j<((ai sh).getD i cN).takes.length→(mY (sO b (ai sh) i) j).chan=((ai sh).getD i cN).takes.getD j 0∧(mY (sO b (ai sh) i) j).w=2:=fun i j hj=>by
  have:mY (sO b (ai sh) i) j=GS b _ _ ((ai sh).getD i cN) j:=aC hj
  rw[this];exact⟨rfl, rfl⟩
 have cpt:∀i j, j<((ai sh).getD i cN).puts.length→(ub (sO b (ai sh) i) j).chan=((ai sh).getD i cN).puts.getD j 0∧(ub (sO b (ai sh) i) j).w=2:=fun i j hj=>by
  have:ub (sO b (ai sh) i) j=JY b _ _ _ ((ai sh).getD i cN) j:=aC hj
  rw[this];exact⟨rfl, rfl⟩
 have cast:∀x:Int, 0≤x→((x.toNat:Nat):Int)=x:=fun x hx=>by omega
 refine⟨by omega, by omega, by omega, fun i hi=>?_, fun i hi j hj=>?_, fun i hi j hj=>?_, fun i hi j k hj hk he=>?_, fun i hi j k hj hk he=>?_, fun n hn=>?_, fun n hn=>?_⟩
 ·rw[lp]at hi
  rw[gp i hi]
  have he:=pk sh i
  exact Lw hb he.1 he.2
 ·rw[lp]at hi
  rw[gp i hi]at hj ⊢
  rw[ltk]at hj
  obtain⟨a1, a2, a3⟩:=q1 i hi j hj
  obtain⟨c1, c2⟩:=ctk i j hj
  have e:nP (sO b (ai sh) i) j=(((ai sh).getD i cN).takes.getD j 0).toNat:=by show(mY _ j).chan.toNat=_;rw[c1]
  rw[c1, c2, e, gc _ (by omega), lc]
  refine⟨a1, by omega, rfl, ?_⟩
  show yB _ _ _=_
  rw[cast _ a1];exact a3
 ·rw[lp]at hi
  rw[gp i hi]at hj ⊢
  rw[lpt]at hj
  obtain⟨a1, a2, a3⟩:=q2 i hi j hj
  obtain⟨c1, c2⟩:=cpt i j hj
  have e:xn (sO b (ai sh) i) j=(((ai sh).getD i cN).puts.getD j 0).toNat:=by show(ub _ j).chan.toNat=_;rw[c1]
  rw[c1, c2, e, gc _ (by omega), lc]
  refine⟨a1, by omega, rfl, ?_⟩
  show yC _ _ _=_
  rw[cast _ a1];exact a3
 ·rw[lp]at hi
  rw[gp i hi]at hj hk he
  rw[ltk]at hj hk
  have a1:=(q1 i hi j hj).1
  have a2:=(q1 i hi k hk).1
  have e1:nP (sO b (ai sh) i) j=(((ai sh).getD i cN).takes.getD j 0).toNat:=by show(mY _ j).chan.toNat=_;rw[(ctk i j hj).1]
  have e2:nP (sO b (ai sh) i) k=(((ai sh).getD i cN).takes.getD k 0).toNat:=by show(mY _ k).chan.toNat=_;rw[(ctk i k hk).1]
  exact q3 i hi j hj k hk (by omega)
 ·rw[lp]at hi
  rw[gp i hi]at hj hk he
  rw[lpt]at hj hk
  have a1:=(q2 i hi j hj).1
  have a2:=(q2 i hi k hk).1
  have e1:xn (sO b (ai sh) i) j=(((ai sh).getD i cN).puts.getD j 0).toNat:=by show(ub _ j).chan.toNat=_;rw[(cpt i j hj).1]
  have e2:xn (sO b (ai sh) i) k=(((ai sh).getD i cN).puts.getD k 0).toNat:=by show(ub _ k).chan.toNat=_;rw[(cpt i k hk).1]
  exact q4 i hi j hj k hk (by omega)
 ·rw[lc]at hn
  rw[gc n hn];rfl
 ·rw[lc]at hn
  rw[gc n hn]
  show(0:Int)≤if _ then _ else _
  split
  ·exact Int.add_nonneg (by decide) (Int.emod_nonneg _ (by decide))
  ·exact Int.le_refl 0
end Go.Proofs.YtckgpflobhpnpaaGreat
