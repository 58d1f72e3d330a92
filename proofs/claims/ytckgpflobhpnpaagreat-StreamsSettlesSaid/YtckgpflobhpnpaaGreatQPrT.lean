/-
  Processes, plain law: equality of states and firings; more facts for the walks.
-/
import Derived.Test.YtckgpflobhpnpaaGreatQNeA
namespace Go.Proofs.YtckgpflobhpnpaaGreat
open Go.RowKit
set_option linter.unusedVariables false
set_option linter.unusedSimpArgs false
def cf {α:Type} (f:Nat→α) (l:List α) (i:Nat):List α:=tab f i++l.drop i
theorem dc {α:Type} {f:Nat→α} {l:List α} {i:Nat} (h:i≤l.length):(cf f l i).length=l.length:=by
 unfold cf;rw[List.length_append, aq, List.length_drop];omega
theorem bM {α:Type} {f:Nat→α} {l:List α} {i:Nat} {v:α} (h:i<l.length) (hv:f i=v):(cf f l i).set i v=cf f l (i+1):=by
 rw[← hv];exact KL h
theorem bH {α:Type} {f:Nat→α} {l:List α} {i:Nat} {d:α} (h:i<l.length) (hv:f i=l.getD i d):cf f l i=cf f l (i+1):=by
 unfold cf
 rw[wv, List.append_assoc, hv]
 congr 1
 rw[List.drop_eq_getElem_cons h, List.getD, List.getElem?_eq_getElem h];rfl
theorem cY {α:Type} {f:Nat→α} {l:List α} {i:Nat} (h:l.length≤i):cf f l i=tab f i:=Ib h
theorem fK {α:Type} {f:Nat→α} {l:List α} {i j:Nat} {d:α}:(cf f l i).getD j d=if j<i then f j else l.getD j d:=by
 unfold cf
 by_cases h:j<i
 ·rw[if_pos h, List.getD, List.getElem?_append_left (by rw[aq];exact h), ← List.getD, aC h]
 ·rw[if_neg h, List.getD, List.getElem?_append_right (by rw[aq];omega), aq, List.getElem?_drop, ← List.getD]
  congr 1;omega
theorem rY {α:Type} {f:Nat→α} {enc:α→List V} {i:Nat} (h:i<137438953472):(tab f i).length+([f i].map enc).length≤137438953472∧(tab f i).map enc++[f i].map enc=(tab f (i+1)).map enc:=by
 refine⟨by rw[aq];simp;omega, ?_⟩
 rw[wv, List.map_append]
theorem bS {α:Type} {n i:Nat} {a:α}:(List.replicate n a).getD i a=a:=by
 rw[List.getD, List.getElem?_replicate];split<;>rfl
section
variable {p:Pr} {s:Ps} {hs:List Hd} {rs:List Bool} {d:List Int} {i:Nat}
theorem CU:(ww p).getD i 0=0:=bS
theorem lR:(ww p).length=p.takes.length:=by simp[ww]
theorem M0 (hp:gW p) (hh:CR p hs) (hi:i≤p.takes.length):CQ p (cf (rU p s hs) (ww p) i) where
 l:=by rw[dc (by rw[lR];exact hi), lR]
 v:=fun j hj=>by
  rw[fK]
  split
  ·have:=(CT (s:=s) hp hh).v j hj
   rw[jG, aC hj]at this
   exact this
  ·exact(OJ hp).v j hj
theorem zA {e:Ex} (h:¬(bK p s d e).1=1):lP p s d e=false:=decide_eq_false h
theorem u7 {e:Ex} (h:(bK p s d e).1=1):lP p s d e=true:=decide_eq_true h
theorem KO (hp:gW p) (hi:i<p.takes.length) (h:¬(bK p s d (mY p i).when).1=1):pS p s hs i=false∧rU p s hs i=0∧kI p s hs i=true:=by
 have h0:=zA h
 have h1:lP p s (ww p) (mY p i).when=false:=by rw[← h0];exact(iM hp hi _ _).1
 have h2:lP p s (jG p s hs) (mY p i).when=false:=by rw[← h0];exact(iM hp hi _ _).1
 refine⟨h2, ?_, ?_⟩
 ·unfold rU;rw[if_neg (by rw[h1];simp)]
 ·unfold kI;rw[h2];simp
theorem rZ (hp:gW p) (hi:i<p.takes.length) (h:(bK p s d (mY p i).when).1=1):pS p s hs i=true∧(rU p s hs i=if (hs.getD i aP).has=true then (hs.getD i aP).v else 0)∧kI p s hs i=(hs.getD i aP).has:=by
 have h0:=u7 h
 have h1:lP p s (ww p) (mY p i).when=true:=by rw[← h0];exact(iM hp hi _ _).1
 have h2:lP p s (jG p s hs) (mY p i).when=true:=by rw[← h0];exact(iM hp hi _ _).1
 refine⟨h2, ?_, ?_⟩
 ·unfold rU;rw[h1];simp
 ·unfold kI;rw[h2];simp
theorem M1 (h:¬(bK p s (jG p s hs) (ub p i).when).1=1):pT p s hs i=aP∧pR p s hs rs i=true:=by
 have h0:=zA h
 refine⟨?_, ?_⟩
 ·unfold pT;rw[h0];simp
 ·unfold pR;rw[h0];simp
theorem EO (h:(bK p s (jG p s hs) (ub p i).when).1=1):pT p s hs i=⟨true, (bK p s (jG p s hs) (ub p i).data).1⟩∧pR p s hs rs i=rs.getD i false:=by
 have h0:=u7 h
 refine⟨?_, ?_⟩
 ·unfold pT;rw[h0];simp
 ·unfold pR;rw[h0];simp
theorem KP (h:fJ p s hs rs=false):aM p s hs rs=⟨false, s, List.replicate p.takes.length false, List.replicate p.puts.length aP⟩:=if_neg (by rw[h];simp)
theorem EP (h:fJ p s hs rs=true):aM p s hs rs=⟨true, eS p s (jG p s hs), tab (pS p s hs) p.takes.length, tab (pT p s hs) p.puts.length⟩:=if_pos h
theorem yh {a b:Bool} (h1:a=dG (kI p s hs) p.takes.length) (h2:b=(a&&dG (pR p s hs rs) p.puts.length)):fJ p s hs rs=b:=by
 rw[h2, h1];rfl
theorem KQ (hp:gW p) (hi:i<p.takes.length):fq (rV p) (mY p i).when=some 1∧gd (mY p i).when≤3:=⟨(iM (s:=bI) hp hi [] []).2, (hp.tw i hi).2.2⟩
theorem Bc (p:Pr):aR p=⟨tab (fun i=>(Gk p i).init) p.regs.length, tab (fun i=>List.replicate (mZ p i).words.toNat 0) p.mems.length⟩:=by
 unfold aR;rw[EN (d:=cC), EN (d:=bi)]
theorem Ic {l:List Int} {z:List Int} (h:l.length=z.length):cf (fun j=>l.getD j 0) z z.length=l:=by
 rw[cY (Nat.le_refl _), ← h, ← Ia]
end
theorem iO {p:Pr} {s:Ps} (h:¬s.regs.length=p.regs.length):b5 p s=false:=by unfold b5;rw[decide_eq_false h];rfl
theorem iP {p:Pr} {s:Ps} (h:¬s.mems.length=p.mems.length):b5 p s=false:=by unfold b5;rw[decide_eq_false h];simp
theorem iQ {p:Pr} {s:Ps} {i:Nat} (hi:i<s.regs.length) (h:b8 (s.regs.getD i 0) (Gk p i).w=false):b5 p s=false:=by
 unfold b5;rw[fI hi h];simp
theorem cZ {p:Pr} {s:Ps} {i:Nat} (hi:i<s.mems.length) (h:jd p s i=false):b5 p s=false:=by
 unfold b5;rw[fI hi h];simp
theorem oX {p:Pr} {s:Ps} {i:Nat} (h:¬((s.mems.getD i []).length:Int)=(mZ p i).words):jd p s i=false:=by unfold jd;rw[decide_eq_false h];rfl
theorem oY {p:Pr} {s:Ps} {i j:Nat} (hj:j<(s.mems.getD i []).length) (h:b8 ((s.mems.getD i []).getD j 0) (mZ p i).w=false):jd p s i=false:=by
 unfold jd;rw[fI hj h];simp
theorem KR {p:Pr} {s:Ps} {i:Nat} (h1:((s.mems.getD i []).length:Int)=(mZ p i).words) (h2:∀j, j<(s.mems.getD i []).length→b8 ((s.mems.getD i []).getD j 0) (mZ p i).w=true):jd p s i=true:=by
 unfold jd;rw[decide_eq_true h1, bL.2 h2];rfl
theorem iR {p:Pr} {s:Ps} (h1:s.regs.length=p.regs.length) (h2:s.mems.length=p.mems.length) (h3:∀i, i<s.regs.length→b8 (s.regs.getD i 0) (Gk p i).w=true) (h4:∀i, i<s.mems.length→jd p s i=true):b5 p s=true:=by
 unfold b5;rw[decide_eq_true h1, decide_eq_true h2, bL.2 h3, bL.2 h4];rfl
theorem ER {v w:Int} (h0:0≤v) (h1:0≤w) (h2:w≤62):(v / 2^w.toNat==0)=b8 v w:=by
 have hp:=kG (n:=w.toNat) (by omega)
 unfold b8
 rw[decide_eq_true h0, Bool.true_and, db h1 h2]
 rw[Bool.eq_iff_iff, beq_iff_eq, decide_eq_true_eq]
 generalize (2:Int)^w.toNat=m at hp ⊢
 constructor
 ·intro h
  have h3:=Int.emod_add_mul_ediv v m
  rw[h]at h3
  have h4:=Int.emod_lt_of_pos v (show 0<m by omega)
  omega
 ·intro h
  exact Int.ediv_eq_zero_of_lt h0 (by omega)
theorem tr {α:Type} {a b:List α} {d:α} {k:Nat} (hl:a.length=b.length) (hk:¬k<a.length) (h:∀j, j<k→a.getD j d=b.getD j d):a=b :=
 dt (d:=d) hl (fun i hi=>h i (by omega))
theorem bU {α:Type} {f:Nat→α} {x:α} {enc:α→List V} {i:Nat} (h:i<137438953472) (hx:x=f i):(tab f i).length+([x].map enc).length≤137438953472∧(tab f i).map enc++[x].map enc=(tab f (i+1)).map enc:=by
 subst hx;exact rY h
section
variable {c:Sc} {p:Pr} {s:Ps} {hs:List Hd} {rs:List Bool} {d:List Int} {i:Nat}
theorem Ie (h:lP p s d (mZ p i).enable=true):(s.mems.getD i []).set (Int.tmod (bK p s d (mZ p i).addr).1 (mZ p i).words).toNat (bK p s d (mZ p i).data).1=Bb p s d i:=(if_pos h).symm
theorem LQ (h:¬lP p s d (mZ p i).enable=true):s.mems.getD i []=Bb p s d i:=(if_neg h).symm
theorem KS (hp:gW p) (hs:qI p s) (hd:CQ p d) (hi:i<p.mems.length):0≤Int.tmod (bK p s d (mZ p i).addr).1 (mZ p i).words∧Int.tmod (bK p s d (mZ p i).addr).1 (mZ p i).words<(s.mems.getD i []).length∧(mZ p i).words≠0:=by
 have h:=hp.mw i hi
 obtain⟨v, hv⟩:=h.2.2.2.1.1
 have h0:=(zz (nN hp hs hd) hv h.2.2.2.1.2).2.1.1
 have hm:=hs.mn i hi
 rw[hm]
 exact⟨Int.tmod_nonneg _ h0, Int.tmod_lt_of_pos _ (by omega), by omega⟩
theorem wy {b:Bool} (h:b=dG (kI p s hs) i) (x:Bool) (hx:x=(b&&kI p s hs i)):x=dG (kI p s hs) (i+1):=by rw[hx, h];rfl
theorem CV {a b:Bool} (h:b=(a&&dG (pR p s hs rs) i)) (x:Bool) (hx:x=(b&&pR p s hs rs i)):x=(a&&dG (pR p s hs rs) (i+1)):=by rw[hx, h, dG, Bool.and_assoc]
end
end Go.Proofs.YtckgpflobhpnpaaGreat
