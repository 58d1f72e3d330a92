/-
  The laws of streams: settled networks.
-/
import Derived.Test.YtckgpflobhpnpaaGreatQNeU
namespace Go.Proofs.YtckgpflobhpnpaaGreat
open Go.RowKit
set_option linter.unusedVariables false
set_option linter.unusedSimpArgs false
theorem Pn {sh:Int} {b:List Int}:L6 (aa sh b):=by
 have key:∀e∈ai sh, 1≤e.puts.length∧e.puts.length≤2:=by
  rcases jp sh with h | h | h | h | h | h<;>rw[h]<;>simp
 intro p hp
 have hp':p<(ai sh).length:=by rw[show(aa sh b).procs.length=(ai sh).length from aq _ _]at hp;exact hp
 have e:bj (aa sh b) p=sO b (ai sh) p:=aC hp'
 have hl:(sO b (ai sh) p).puts.length=((ai sh).getD p cN).puts.length:=by
  show(tab _ _).length=_
  rw[aq]
 rw[e, hl, d9 _ _ hp']
 exact key _ (List.getElem_mem hp')
theorem NO {sh:Int} {b:List Int}:∀n, n<(aa sh b).chans.length→-1≤(cH (aa sh b) n).frm:=by
 intro n hn
 have hn':n<jH sh:=by rw[show(aa sh b).chans.length=jH sh from aq _ _]at hn;exact hn
 rw[show cH (aa sh b) n=uJ sh (ai sh) n from aC hn']
 exact(Dt _ _ _).1
theorem Po {sh:Int} {b bb:List Int} (h0:0≤sh) (h1:sh≤255) (hb:rS b) (hbb:rS bb):jI (aa sh b) (aA (aa sh b) bb):=OS (Ma h0 h1 hb) hbb NO
section
variable {c:Ci} {inp inp2:List (List Int)} {n n2:Nat} {cls cl2:List ByteArray}
theorem NP (h:jI c inp) (hc:a8 c):inp.length≤100000∧∀z∈inp, z.length≤100000:=by
 refine⟨by rw[h.l];have:=hc.cl;omega, fun z hz=>?_⟩
 obtain⟨i, hi, rfl⟩:=List.getElem_of_mem hz
 have:=h.sm i
 rw[d9 _ _ hi]at this
 omega
theorem NQ (h:jI c inp) (hn:n≤100):bB c inp (n:Int)=⟨ca c (cj c inp n), dD c (cj c inp n), 0⟩:=by
 unfold bB
 rw[kV (en.2 h) (by omega), Int.toNat_natCast]
end
theorem NR {sh:Int} {b:List Int}:∀n, n<(aa sh b).chans.length→(cH (aa sh b) n).dst=-1∨(cH (aa sh b) n).frm<0∨0<(cH (aa sh b) n).cap:=by
 intro n hn
 have hn':n<jH sh:=by rw[show(aa sh b).chans.length=jH sh from aq _ _]at hn;exact hn
 rw[show cH (aa sh b) n=uJ sh (ai sh) n from aC hn']
 have h:=(Ds (ai sh) n (ai sh).length).1
 unfold uJ
 show yB _ _ _=-1∨yC _ _ _<0∨0<(if _ then _ else _:Int)
 by_cases h1:0≤yC (ai sh) n (ai sh).length
 ·by_cases h2:0≤yB (ai sh) n (ai sh).length
  ·rw[if_pos ⟨h1, h2⟩]
   right;right;omega
  ·left;omega
 ·right;left;omega
section
variable {c:Ci} {inp:List (List Int)} {i:Nat}
def uM (c:Ci) (inp:List (List Int)) (i:Nat):List (List Int):=cf (fun n=>inp.getD n []) (List.replicate c.chans.length []) i
def xc (c:Ci) (inp:List (List Int)) (i:Nat):Ns:=dg c (uM c inp i)
theorem xd (hi:i≤c.chans.length):(uM c inp i).length=c.chans.length:=by
 unfold uM
 rw[dc (by rw[List.length_replicate];exact hi), List.length_replicate]
theorem sN (n:Nat):(uM c inp i).getD n []=if n<i then inp.getD n []else []:=by
 unfold uM
 rw[fK]
 split
 ·rfl
 ·exact bS
theorem JQ (h:jI c inp) (hi:i≤c.chans.length):jI c (uM c inp i):=by
 refine⟨xd hi, fun n hn hf=>?_, fun n hn k hk=>?_, fun n=>?_⟩
 ·rw[sN];split
  ·exact h.ex n hn hf
  ·rfl
 ·rw[sN]at hk ⊢
  split at hk
  ·rename_i h1;rw[if_pos h1];exact h.fv n hn k hk
  ·simp at hk
 ·rw[sN];split
  ·exact h.sm n
  ·exact Nat.zero_le _
theorem DN (hc:a8 c) (h:jI c inp) (hi:i≤c.chans.length):fa c (xc c inp i):=BB hc (JQ h hi)
theorem DP (h:jI c inp) (hi:i≤c.chans.length) (n:Nat):(lU (xc c inp i) n).length≤1000:=(JQ h hi).sm n
theorem Lx (h:jI c inp):xc c inp c.chans.length=dg c inp:=by
 unfold xc
 rw[show uM c inp c.chans.length=inp from dt (d:=[]) (by rw[xd (Nat.le_refl _), h.l]) (fun n hn=>by rw[xd (Nat.le_refl _)]at hn;rw[sN, if_pos hn])]
theorem JR (hi:i<c.chans.length) (h0:(inp.getD i []).length=0):xc c inp i=xc c inp (i+1):=by
 unfold xc uM
 rw[bH (d:=[]) (by rw[List.length_replicate];exact hi)]
 show inp.getD i []=_
 rw[bS];exact List.length_eq_zero_iff.1 h0
theorem JS (h:jI c inp) (hi:i<c.chans.length) (h0:¬(inp.getD i []).length=0):dW c (xc c inp i) (i:Int) (inp.getD i [])=(xc c inp (i+1), 0):=by
 have hf:(cH c i).frm=-1:=by
  refine Classical.byContradiction fun hf=>h0 ?_
  rw[h.ex i hi hf];rfl
 rw[sj (I3 (by omega) (by omega) (by rw[Int.toNat_natCast];exact hf)) (by rw[Int.toNat_natCast];exact sr (fun z hz=>wx.2 (h.fv i hi z hz))), Int.toNat_natCast]
 have e:lU (xc c inp i) i=[]:=by
  show(uM c inp i).getD i []=[]
  rw[sN, if_neg (Nat.lt_irrefl _)]
 rw[e, List.nil_append]
 have e2:(uM c inp i).set i (inp.getD i [])=uM c inp (i+1):=bM (by rw[List.length_replicate];exact hi) rfl
 show((⟨(du c).procs, (uM c inp i).set i (inp.getD i [])⟩:Ns), (0:Int))=_
 rw[e2];rfl
structure Pp (c:Ci) (inp:List (List Int)):Prop where
 e:(bB c inp 100).e=0
 atm:uL (bo c (dg c inp) 99).2.1 (bB c inp 100).c=true
 ll:(bB c inp 100).l.length=c.chans.length
 sl:(bo c (dg c inp) 99).1.chans.length=c.chans.length
 sw:∀i, ((bo c (dg c inp) 99).1.chans.getD i []).length≤9223372036854775807
 cl:(bo c (dg c inp) 99).2.1.length≤9223372036854775807
 pre:∀i, i<c.chans.length→(c.chans.getD i a6).dst=-1→eK [(bo c (dg c inp) 99).1.chans.getD i []] [(bB c inp 100).l.getD i []]=true
 len:(bo c (dg c inp) 99).2.2=0→(∀i, i<c.chans.length→¬(0<(c.chans.getD i a6).cap∧(c.chans.getD i a6).cap≤(((bo c (dg c inp) 99).1.chans.getD i []).length:Int)))→(∀i, i<c.chans.length→(c.chans.getD i a6).dst=-1→((bo c (dg c inp) 99).1.chans.getD i []).length=((bB c inp 100).l.getD i []).length)∧(bo c (dg c inp) 99).2.1=(bB c inp 100).c
theorem yI (hc:a8 c):∀{l:List Nat} {s:Ns} {k:Nat}, fa c s→EY s k→fa c (xo c s l)∧EY (xo c s l) (k+l.length)
 | [], _, _, h, h2=>⟨h, h2⟩
 | p::r, s, k, h, h2=>by
  obtain⟨a, b⟩:=yI hc (l:=r) (k:=k+1) (CX hc h (cm p)) (Iv hc h2)
  exact⟨a, fun n=>Nat.le_trans (b n) (by rw[List.length_cons];omega)⟩
theorem DQ (hc:a8 c) (h:jI c inp) (hg:∀n, n<c.chans.length→(cH c n).dst=-1∨(cH c n).frm<0∨0<(cH c n).cap):Pp c inp:=by
 obtain⟨l, h1, h2, h3, h4, h5, h6⟩:=Dx (c:=c) (n:=99) (s:=dg c inp) (cnt:=List.replicate c.procs.length 0) (by simp)
 obtain⟨s1, s2, s3⟩:=K7 hc (inp:=inp) h2 h1
 have hr:bo c (dg c inp) 99=df c 99 (dg c inp) (List.replicate c.procs.length 0):=rfl
 rw[← hr]at h3 h4 h5 h6
 obtain⟨n1, n2⟩:=yI hc (l:=l) (k:=1000) (BB hc h) (fun n=>h.sm n)
 rw[h3]at n1 n2 s2 s3
 have hcl:=hc.cl
 have hnl:=hc.nl
 have es:=NQ (n:=100) h (Nat.le_refl _)
 have e2:bB c inp 100=⟨ca c (cj c inp 100), dD c (cj c inp 100), 0⟩:=es
 have hw:∀i, i<c.chans.length→(ca c (cj c inp 100)).getD i []=(cj c inp 100).l i:=fun i hi=>aC hi
 have hq:∀q, q<c.procs.length→(bo c (dg c inp) 99).2.1.getD q 0=((l.count q:Nat):Int):=fun q hq=>by
  rw[h5 q hq, bS];omega
 refine⟨by rw[e2], ?_, by rw[e2];exact aq _ _, n1.cl, fun i=>?_, by omega, fun i hi hd=>?_, fun h0 hf=>?_⟩
 ·rw[e2]
  refine vx (by rw[h4];exact(aq _ _).symm) (fun q hq9=>decide_eq_true ?_)
  rw[h4]at hq9
  rw[hq q hq9, show(dD c (cj c inp 100)).getD q 0=((cj c inp 100).cnt q:Int)from aC hq9]
  have:=s1 q
  omega
 ·have:=n2 i
  exact Nat.le_trans this (by omega)
 ·rw[e2]
  refine K8.2 ⟨rfl, fun k hk=>?_⟩
  have:k=0:=by simpa using hk
  subst this
  show(bo c (dg c inp) 99).1.chans.getD i [] <+: (ca c (cj c inp 100)).getD i []
  rw[hw i hi]
  exact s2 i hi hd
 ·obtain⟨t1, t2⟩:=s3 (h6 h0) (fun m hm=>by
   rcases hg m hm with g | g | g
   ·exact .inl g
   ·exact .inr (.inl g)
   ·refine .inr (.inr ?_)
    have:=hf m hm
    show(((bo c (dg c inp) 99).1.chans.getD m []).length:Int)<(c.chans.getD m a6).cap
    have g':0<(c.chans.getD m a6).cap:=g
    omega)
  refine⟨fun i hi hd=>?_, ?_⟩
  ·rw[e2]
   show _=((ca c (cj c inp 100)).getD i []).length
   rw[hw i hi, ← t2 i hi hd]
  ·rw[e2]
   refine dt (d:=0) (by rw[h4];exact(aq _ _).symm) (fun q hq9=>?_)
   rw[h4]at hq9
   rw[hq q hq9, show(dD c (cj c inp 100)).getD q 0=((cj c inp 100).cnt q:Int)from aC hq9, t1 q]
end
end Go.Proofs.YtckgpflobhpnpaaGreat
