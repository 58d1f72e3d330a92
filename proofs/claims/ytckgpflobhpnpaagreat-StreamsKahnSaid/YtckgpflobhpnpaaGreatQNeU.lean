/-
  Made circuits are well made.
-/
import Derived.Test.YtckgpflobhpnpaaGreatQStS
namespace Go.Proofs.YtckgpflobhpnpaaGreat
open Go.RowKit
set_option linter.unusedVariables false
set_option linter.unusedSimpArgs false
theorem DC {s:Sg} {b:List Int} (hb:qe b) (i:Nat):e9 s.sc (aO s b i).1=some 1∧fS (aO s b i).1≤3:=by
 unfold aO
 split
 ·have h:=u1 (s:=s) hb 2 (i+1) 1 (by omega) (by omega) (by omega)
  exact⟨h.1, by have:=h.2.1;omega⟩
 ·exact⟨rfl, by show fS fu≤3;decide⟩
theorem Lf (y:Int) (f:Nat→Rg) (hf:∀k, (f k).w=bA y k):(⟨(tab f (su y)).map (·.w), [], []⟩:Sc)=(Ls y).sc:=by
 have:(tab f (su y)).map (·.w)=Lr y:=by
  unfold Lr tab
  rw[List.map_map]
  exact List.map_congr_left (fun k _=>hf k)
 rw[this];rfl
theorem Lg (y:Int) (n:Nat) (f:Nat→Rg) (g:Nat→Tk) (hf:∀k, (f k).w=bA y k) (hg:∀k, (g k).w=2):(⟨(tab f (su y)).map (·.w), [], (tab g n).map (·.w)⟩:Sc)=(zN y n).sc:=by
 have e1:(tab f (su y)).map (·.w)=Lr y:=by
  unfold Lr tab
  rw[List.map_map]
  exact List.map_congr_left (fun k _=>hf k)
 have e2:(tab g n).map (·.w)=List.replicate n 2:=by
  apply List.ext_getElem
  ·simp[ao]
  ·intro i h1 h2
   simp[tab, hg]
 rw[e1, e2];rfl
theorem I9 {b:List Int} (hb:qe b) {i:Nat} {nm:ByteArray} {e:En} (ht:e.takes.length≤2) (hp:e.puts.length≤2):fq (bp b i nm e).1:=by
 have hy:=eh hb i
 have hn:=Bv hy.1
 have hs0:Ox (bp b i nm e).1=(Ls (b.getD i 0)).sc:=Lf _ _ (fun k=>rfl)
 have hs1:qS (bp b i nm e).1=(zN (b.getD i 0) e.takes.length).sc:=Lg _ _ _ _ (fun k=>rfl) (fun k=>rfl)
 have l1:(bp b i nm e).1.regs.length=su (b.getD i 0):=ao _ _
 have l2:(bp b i nm e).1.takes.length=e.takes.length:=ao _ _
 have l3:(bp b i nm e).1.puts.length=e.puts.length:=ao _ _
 have l4:(bp b i nm e).1.mems.length=0:=rfl
 refine⟨by omega, by omega, by omega, by omega, fun k hk=>?_, fun k hk=>by omega, fun k hk=>?_, fun k hk=>?_⟩
 ·rw[hs1]
  rw[l1]at hk
  have e1:Ej (bp b i nm e).1 k=NZ b (b.getD i 0) e.takes.length (mQ b i e) k:=aE hk
  rw[e1]
  have hw:=yj (b.getD i 0) k
  have h:=u1 (s:=zN (b.getD i 0) e.takes.length) hb 3 (yf b (b.getD i 0) e.takes.length (mQ b i e) k) (bA (b.getD i 0) k) (by omega) (by omega) (by omega)
  refine⟨bf.2 (by show 1≤bA (b.getD i 0) k∧bA (b.getD i 0) k≤8;omega), ?_, h.1, by have:=h.2.1;show fS (am _ b 3 _ _).1≤3;omega⟩
  show dt (b.getD i 0 / 8%2^(bA (b.getD i 0) k).toNat) (bA (b.getD i 0) k)
  unfold dt
  rw[dq (by omega) (by omega)]
  have hp2:(0:Int)<2^(bA (b.getD i 0) k).toNat:=Int.pow_pos (by omega)
  exact⟨Int.emod_nonneg _ (by omega), by have:=Int.emod_lt_of_pos (b.getD i 0 / 8) hp2;omega⟩
 ·rw[hs0]
  rw[l2]at hk
  have e1:lO (bp b i nm e).1 k=EP b (b.getD i 0) (i+1) e k:=aE hk
  rw[e1]
  exact⟨rfl, DC hb _⟩
 ·rw[hs1]
  rw[l3]at hk
  have e1:sT (bp b i nm e).1 k=Hz b (b.getD i 0) e.takes.length (lQ b i e) e k:=aE hk
  rw[e1]
  have h:=u1 (s:=zN (b.getD i 0) e.takes.length) hb 2 (aO (zN (b.getD i 0) e.takes.length) b (vj b (b.getD i 0) e.takes.length (lQ b i e) k)).2 2 (by omega) (by omega) (by omega)
  exact⟨rfl, DC hb _, h.1, by have:=h.2.1;show fS (am _ b 2 _ _).1≤3;omega⟩
def MM (l:List En):Prop:=∀i, i<l.length→∀j, j<(l.getD i cx).takes.length→0≤(l.getD i cx).takes.getD j 0∧(l.getD i cx).takes.getD j 0<ri l l.length+1∧yM l ((l.getD i cx).takes.getD j 0) l.length=(i:Int)
def MN (l:List En):Prop:=∀i, i<l.length→∀j, j<(l.getD i cx).puts.length→0≤(l.getD i cx).puts.getD j 0∧(l.getD i cx).puts.getD j 0<ri l l.length+1∧yN l ((l.getD i cx).puts.getD j 0) l.length=(i:Int)
def MO (l:List En):Prop:=∀i, i<l.length→∀j, j<(l.getD i cx).takes.length→∀k, k<(l.getD i cx).takes.length→(l.getD i cx).takes.getD j 0=(l.getD i cx).takes.getD k 0→j=k
def MP (l:List En):Prop:=∀i, i<l.length→∀j, j<(l.getD i cx).puts.length→∀k, k<(l.getD i cx).puts.length→(l.getD i cx).puts.getD j 0=(l.getD i cx).puts.getD k 0→j=k
theorem MQ (sh:Int):MM (ah sh)∧MN (ah sh)∧MO (ah sh)∧MP (ah sh):=by
 unfold MM MN MO MP
 rcases iY sh with h | h | h | h | h | h<;>rw[h]<;>decide
theorem JI {sh:Int} {b:List Int} (h0:0≤sh) (h1:sh≤255) (hb:qe b):a6 (ac sh b):=by
 have hpl:=zQ sh
 have hnc:=GI sh
 obtain⟨q1, q2, q3, q4⟩:=MQ sh
 have lp:(ac sh b).procs.length=(ah sh).length:=ao _ _
 have lc:(ac sh b).chans.length=kf sh:=ao _ _
 have gp:∀i, i<(ah sh).length→bc (ac sh b) i=rD b (ah sh) i:=fun i hi=>aE hi
 have gc:∀n, n<kf sh→fT (ac sh b) n=vl sh (ah sh) n:=fun n hn=>aE hn
 have ltk:∀i, (rD b (ah sh) i).takes.length=((ah sh).getD i cx).takes.length:=fun i=>ao _ _
 have lpt:∀i, (rD b (ah sh) i).puts.length=((ah sh).getD i cx).puts.length:=fun i=>ao _ _
 have ctk:∀i j, j<((ah sh).getD i cx).takes.length→(lO (rD b (ah sh) i) j).chan=((ah sh).getD i cx).takes.getD j 0∧(lO (rD b (ah sh) i) j).w=2:=fun i j hj=>by
  have:lO (rD b (ah sh) i) j=EP b _ _ ((ah sh).getD i cx) j:=aE hj
  rw[this];exact⟨rfl, rfl⟩
 have cpt:∀i j, j<((ah sh).getD i cx).puts.length→(sT (rD b (ah sh) i) j).chan=((ah sh).getD i cx).puts.getD j 0∧(sT (rD b (ah sh) i) j).w=2:=fun i j hj=>by
  have:sT (rD b (ah sh) i) j=Hz b _ _ _ ((ah sh).getD i cx) j:=aE hj
  rw[this];exact⟨rfl, rfl⟩
 have cast:∀x:Int, 0≤x→((x.toNat:Nat):Int)=x:=fun x hx=>by omega
 refine⟨by omega, by omega, by omega, fun i hi=>?_, fun i hi j hj=>?_, fun i hi j hj=>?_, fun i hi j k hj hk he=>?_, fun i hi j k hj hk he=>?_, fun n hn=>?_, fun n hn=>?_⟩
 ·rw[lp]at hi
  rw[gp i hi]
  have he:=n9 sh i
  exact I9 hb he.1 he.2
 ·rw[lp]at hi
  rw[gp i hi]at hj ⊢
  rw[ltk]at hj
  obtain⟨a1, a2, a3⟩:=q1 i hi j hj
  obtain⟨c1, c2⟩:=ctk i j hj
  have e:mH (rD b (ah sh) i) j=(((ah sh).getD i cx).takes.getD j 0).toNat:=by show(lO _ j).chan.toNat=_;rw[c1]
  rw[c1, c2, e, gc _ (by omega), lc]
  refine⟨a1, by omega, rfl, ?_⟩
  show yM _ _ _=_
  rw[cast _ a1];exact a3
 ·rw[lp]at hi
  rw[gp i hi]at hj ⊢
  rw[lpt]at hj
  obtain⟨a1, a2, a3⟩:=q2 i hi j hj
  obtain⟨c1, c2⟩:=cpt i j hj
  have e:vL (rD b (ah sh) i) j=(((ah sh).getD i cx).puts.getD j 0).toNat:=by show(sT _ j).chan.toNat=_;rw[c1]
  rw[c1, c2, e, gc _ (by omega), lc]
  refine⟨a1, by omega, rfl, ?_⟩
  show yN _ _ _=_
  rw[cast _ a1];exact a3
 ·rw[lp]at hi
  rw[gp i hi]at hj hk he
  rw[ltk]at hj hk
  have a1:=(q1 i hi j hj).1
  have a2:=(q1 i hi k hk).1
  have e1:mH (rD b (ah sh) i) j=(((ah sh).getD i cx).takes.getD j 0).toNat:=by show(lO _ j).chan.toNat=_;rw[(ctk i j hj).1]
  have e2:mH (rD b (ah sh) i) k=(((ah sh).getD i cx).takes.getD k 0).toNat:=by show(lO _ k).chan.toNat=_;rw[(ctk i k hk).1]
  exact q3 i hi j hj k hk (by omega)
 ·rw[lp]at hi
  rw[gp i hi]at hj hk he
  rw[lpt]at hj hk
  have a1:=(q2 i hi j hj).1
  have a2:=(q2 i hi k hk).1
  have e1:vL (rD b (ah sh) i) j=(((ah sh).getD i cx).puts.getD j 0).toNat:=by show(sT _ j).chan.toNat=_;rw[(cpt i j hj).1]
  have e2:vL (rD b (ah sh) i) k=(((ah sh).getD i cx).puts.getD k 0).toNat:=by show(sT _ k).chan.toNat=_;rw[(cpt i k hk).1]
  exact q4 i hi j hj k hk (by omega)
 ·rw[lc]at hn
  rw[gc n hn];rfl
 ·rw[lc]at hn
  rw[gc n hn]
  show(0:Int)≤if _ then _ else _
  split
  ·exact Int.add_nonneg (by decide) (Int.emod_nonneg _ (by decide))
  ·exact Int.le_refl 0
end Go.Proofs.YtckgpflobhpnpaaGreat
