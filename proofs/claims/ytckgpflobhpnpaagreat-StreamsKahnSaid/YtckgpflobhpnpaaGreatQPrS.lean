/-
  Processes, plain law: facts for the walks over steps.
-/
import Derived.Test.YtckgpflobhpnpaaGreatQNeA
namespace Go.Proofs.YtckgpflobhpnpaaGreat
open Go.RowKit
set_option linter.unusedVariables false
set_option linter.unusedSimpArgs false
def cD {α:Type} (f:Nat→α) (l:List α) (i:Nat):List α:=tab f i++l.drop i
theorem eG {α:Type} {f:Nat→α} {l:List α} {i:Nat} (h:i≤l.length):(cD f l i).length=l.length:=by
 unfold cD;rw[List.length_append, ao, List.length_drop];omega
theorem cg {α:Type} {f:Nat→α} {l:List α} {i:Nat} {v:α} (h:i<l.length) (hv:f i=v):(cD f l i).set i v=cD f l (i+1):=by
 rw[← hv];exact Ir h
theorem cy {α:Type} {f:Nat→α} {l:List α} {i:Nat} {d:α} (h:i<l.length) (hv:f i=l.getD i d):cD f l i=cD f l (i+1):=by
 unfold cD
 rw[u3, List.append_assoc, hv]
 congr 1
 rw[List.drop_eq_getElem_cons h, List.getD, List.getElem?_eq_getElem h];rfl
theorem dz {α:Type} {f:Nat→α} {l:List α} {i:Nat} (h:l.length≤i):cD f l i=tab f i:=Gb h
theorem mD {α:Type} {f:Nat→α} {l:List α} {i j:Nat} {d:α}:(cD f l i).getD j d=if j<i then f j else l.getD j d:=by
 unfold cD
 by_cases h:j<i
 ·rw[if_pos h, List.getD, List.getElem?_append_left (by rw[ao];exact h), ← List.getD, aE h]
 ·rw[if_neg h, List.getD, List.getElem?_append_right (by rw[ao];omega), ao, List.getElem?_drop, ← List.getD]
  congr 1;omega
theorem qU {α:Type} {f:Nat→α} {enc:α→List V} {i:Nat} (h:i<137438953472):(tab f i).length+([f i].map enc).length≤137438953472∧(tab f i).map enc++[f i].map enc=(tab f (i+1)).map enc:=by
 refine⟨by rw[ao];simp;omega, ?_⟩
 rw[u3, List.map_append]
theorem cL {α:Type} {n i:Nat} {a:α}:(List.replicate n a).getD i a=a:=by
 rw[List.getD, List.getElem?_replicate];split<;>rfl
section
variable {p:Pr} {s:Ps} {hs:List Hd} {rs:List Bool} {d:List Int} {i:Nat}
theorem Bc:(u4 p).getD i 0=0:=cL
theorem kS:(u4 p).length=p.takes.length:=by simp[u4]
theorem Kw (hp:fq p) (hh:Ba p hs) (hi:i≤p.takes.length):A9 p (cD (qR p s hs) (u4 p) i) where
 l:=by rw[eG (by rw[kS];exact hi), kS]
 v:=fun j hj=>by
  rw[mD]
  split
  ·have:=(Bb (s:=s) hp hh).v j hj
   rw[jg, aE hj]at this
   exact this
  ·exact(Mc hp).v j hj
theorem xX {e:Ex} (h:¬(bC p s d e).1=1):kR p s d e=false:=decide_eq_false h
theorem tJ {e:Ex} (h:(bC p s d e).1=1):kR p s d e=true:=decide_eq_true h
theorem Iv (hp:fq p) (hi:i<p.takes.length) (h:¬(bC p s d (lO p i).when).1=1):oU p s hs i=false∧qR p s hs i=0∧jZ p s hs i=true:=by
 have h0:=xX h
 have h1:kR p s (u4 p) (lO p i).when=false:=by rw[← h0];exact(ir hp hi _ _).1
 have h2:kR p s (jg p s hs) (lO p i).when=false:=by rw[← h0];exact(ir hp hi _ _).1
 refine⟨h2, ?_, ?_⟩
 ·unfold qR;rw[if_neg (by rw[h1];simp)]
 ·unfold jZ;rw[h2];simp
theorem qV (hp:fq p) (hi:i<p.takes.length) (h:(bC p s d (lO p i).when).1=1):oU p s hs i=true∧(qR p s hs i=if (hs.getD i aP).has=true then (hs.getD i aP).v else 0)∧jZ p s hs i=(hs.getD i aP).has:=by
 have h0:=tJ h
 have h1:kR p s (u4 p) (lO p i).when=true:=by rw[← h0];exact(ir hp hi _ _).1
 have h2:kR p s (jg p s hs) (lO p i).when=true:=by rw[← h0];exact(ir hp hi _ _).1
 refine⟨h2, ?_, ?_⟩
 ·unfold qR;rw[h1];simp
 ·unfold jZ;rw[h2];simp
theorem Kx (h:¬(bC p s (jg p s hs) (sT p i).when).1=1):oV p s hs i=aP∧oT p s hs rs i=true:=by
 have h0:=xX h
 refine⟨?_, ?_⟩
 ·unfold oV;rw[h0];simp
 ·unfold oT;rw[h0];simp
theorem CX (h:(bC p s (jg p s hs) (sT p i).when).1=1):oV p s hs i=⟨true, (bC p s (jg p s hs) (sT p i).data).1⟩∧oT p s hs rs i=rs.getD i false:=by
 have h0:=tJ h
 refine⟨?_, ?_⟩
 ·unfold oV;rw[h0];simp
 ·unfold oT;rw[h0];simp
theorem Iw (h:fp p s hs rs=false):ay p s hs rs=⟨false, s, List.replicate p.takes.length false, List.replicate p.puts.length aP⟩:=if_neg (by rw[h];simp)
theorem CY (h:fp p s hs rs=true):ay p s hs rs=⟨true, eE p s (jg p s hs), tab (oU p s hs) p.takes.length, tab (oV p s hs) p.puts.length⟩:=if_pos h
theorem wK {a b:Bool} (h1:a=dF (jZ p s hs) p.takes.length) (h2:b=(a&&dF (oT p s hs rs) p.puts.length)):fp p s hs rs=b:=by
 rw[h2, h1];rfl
theorem Ix (hp:fq p) (hi:i<p.takes.length):e9 (qS p) (lO p i).when=some 1∧fS (lO p i).when≤3:=⟨(ir (s:=bB) hp hi [] []).2, (hp.tw i hi).2.2⟩
theorem zB (p:Pr):aI p=⟨tab (fun i=>(Ej p i).init) p.regs.length, tab (fun i=>List.replicate (lP p i).words.toNat 0) p.mems.length⟩:=by
 unfold aI;rw[CW (d:=cb), CW (d:=ba)]
theorem Gc {l:List Int} {z:List Int} (h:l.length=z.length):cD (fun j=>l.getD j 0) z z.length=l:=by
 rw[dz (Nat.le_refl _), ← h, ← Ga]
end
theorem it {p:Pr} {s:Ps} (h:¬s.regs.length=p.regs.length):b9 p s=false:=by unfold b9;rw[decide_eq_false h];rfl
theorem iu {p:Pr} {s:Ps} (h:¬s.mems.length=p.mems.length):b9 p s=false:=by unfold b9;rw[decide_eq_false h];simp
theorem iv {p:Pr} {s:Ps} {i:Nat} (hi:i<s.regs.length) (h:dQ (s.regs.getD i 0) (Ej p i).w=false):b9 p s=false:=by
 unfold b9;rw[kQ hi h];simp
theorem cF {p:Pr} {s:Ps} {i:Nat} (hi:i<s.mems.length) (h:iR p s i=false):b9 p s=false:=by
 unfold b9;rw[kQ hi h];simp
theorem nM {p:Pr} {s:Ps} {i:Nat} (h:¬((s.mems.getD i []).length:Int)=(lP p i).words):iR p s i=false:=by unfold iR;rw[decide_eq_false h];rfl
theorem nN {p:Pr} {s:Ps} {i j:Nat} (hj:j<(s.mems.getD i []).length) (h:dQ ((s.mems.getD i []).getD j 0) (lP p i).w=false):iR p s i=false:=by
 unfold iR;rw[kQ hj h];simp
theorem Iy {p:Pr} {s:Ps} {i:Nat} (h1:((s.mems.getD i []).length:Int)=(lP p i).words) (h2:∀j, j<(s.mems.getD i []).length→dQ ((s.mems.getD i []).getD j 0) (lP p i).w=true):iR p s i=true:=by
 unfold iR;rw[decide_eq_true h1, cf.2 h2];rfl
theorem iw {p:Pr} {s:Ps} (h1:s.regs.length=p.regs.length) (h2:s.mems.length=p.mems.length) (h3:∀i, i<s.regs.length→dQ (s.regs.getD i 0) (Ej p i).w=true) (h4:∀i, i<s.mems.length→iR p s i=true):b9 p s=true:=by
 unfold b9;rw[decide_eq_true h1, decide_eq_true h2, cf.2 h3, cf.2 h4];rfl
theorem CZ {v w:Int} (h0:0≤v) (h1:0≤w) (h2:w≤62):(v / 2^w.toNat==0)=dQ v w:=by
 have hp:=mr (n:=w.toNat) (by omega)
 unfold dQ
 rw[decide_eq_true h0, Bool.true_and, dq h1 h2]
 rw[Bool.eq_iff_iff, beq_iff_eq, decide_eq_true_eq]
 generalize (2:Int)^w.toNat=m at hp ⊢
 constructor
 ·intro h
  have h3:=Int.emod_add_mul_ediv v m
  rw[h]at h3
  have h4:=Int.emod_lt_of_pos v (show 0<m by omega)
  omega
 ·intro h
  exact Int.ediv_eq_zero_of_lt h0 (by omega)
end Go.Proofs.YtckgpflobhpnpaaGreat
