/-
  Processes and circuits, plain data: what a process does at a tick, what a circuit does.
-/
import Derived.Test.YtckgpflobhpnpaaGreatQPrG
namespace Go.Proofs.YtckgpflobhpnpaaGreat
open Go.RowKit
set_option linter.unusedVariables false
set_option linter.unusedSimpArgs false
def tab {α:Type} (f:Nat→α) (n:Nat):List α:=(List.range n).map f
theorem u3 {α:Type} (f:Nat→α) (n:Nat):tab f (n+1)=tab f n++[f n]:=by simp[tab, List.range_succ]
theorem ao {α:Type} (f:Nat→α) (n:Nat):(tab f n).length=n:=by simp[tab]
theorem aE {α:Type} {f:Nat→α} {n i:Nat} {d:α} (h:i<n):(tab f n).getD i d=f i:=by
 simp[tab, List.getD, List.getElem?_eq_getElem, h]
theorem xV {α:Type} {f:Nat→α} {n i:Nat} {d:α} (h:n≤i):(tab f n).getD i d=d:=by
 rw[List.getD, List.getElem?_eq_none (by rw[ao];exact h)];rfl
theorem iq {α:Type} {f g:Nat→α} {n:Nat} (h:∀i, i<n→f i=g i):tab f n=tab g n:=by
 unfold tab
 exact List.map_congr_left (fun a ha=>h a (List.mem_range.1 ha))
theorem Ga {α:Type} {l:List α} {d:α}:l=tab (fun i=>l.getD i d) l.length:=by
 apply List.ext_getElem
 ·rw[ao]
 ·intro i h1 h2;simp[tab, List.getD, List.getElem?_eq_getElem h1]
theorem dW {α:Type} {a b:List α} {d:α} (hl:a.length=b.length) (h:∀i, i<a.length→a.getD i d=b.getD i d):a=b:=by
 apply List.ext_getElem hl
 intro i h1 h2
 have:=h i h1
 simpa[List.getD, List.getElem?_eq_getElem h1, List.getElem?_eq_getElem h2]using this
theorem CW {α β:Type} {l:List α} {d:α} (f:α→β):l.map f=tab (fun i=>f (l.getD i d)) l.length:=by
 apply List.ext_getElem
 ·simp[ao]
 ·intro i h1 h2;rw[List.length_map]at h1;simp[tab, List.getD, List.getElem?_eq_getElem h1]
theorem Ir {α:Type} {f:Nat→α} {l:List α} {k:Nat} (hk:k<l.length):(tab f k++l.drop k).set k (f k)=tab f (k+1)++l.drop (k+1):=by
 rw[List.set_append_right _ _ (by rw[ao];omega), ao, Nat.sub_self, u3, List.append_assoc]
 congr 1
 rw[List.drop_eq_getElem_cons hk];rfl
theorem Gb {α:Type} {f:Nat→α} {l:List α} {k:Nat} (hk:l.length≤k):tab f k++l.drop k=tab f k:=by rw[List.drop_eq_nil_of_le hk, List.append_nil]
theorem c8 {α:Type} {l:List α} {i j:Nat} {x d:α} (h:i<l.length):(l.set i x).getD j d=if i=j then x else l.getD j d:=by
 simp only[List.getD, List.getElem?_set]
 split
 ·rename_i e;subst e;simp[h]
 ·rfl
def dF (f:Nat→Bool):Nat→Bool
 | 0=>true
 | n+1=>dF f n&&f n
theorem cf {f:Nat→Bool}:∀{n:Nat}, dF f n=true↔∀i, i<n→f i=true
 | 0=>⟨fun _ i hi=>absurd hi (Nat.not_lt_zero _), fun _=>rfl⟩
 | n+1=>by
  rw[dF, Bool.and_eq_true, cf]
  constructor
  ·rintro⟨h1, h2⟩ i hi
   rcases Nat.lt_or_ge i n with h | h
   ·exact h1 i h
   ·rw[show i=n by omega];exact h2
  ·intro h;exact⟨fun i hi=>h i (by omega), h n (by omega)⟩
theorem kQ {f:Nat→Bool} {n i:Nat} (hi:i<n) (h:f i=false):dF f n=false:=by
 cases hh:dF f n
 ·rfl
 ·rw[cf.1 hh i hi]at h;cases h
def kR (p:Pr) (s:Ps) (data:List Int) (e:Ex):Bool:=decide ((bC p s data e).1=1)
def u4 (p:Pr):List Int:=List.replicate p.takes.length 0
abbrev lO (p:Pr) (i:Nat):Tk:=p.takes.getD i aK
abbrev sT (p:Pr) (i:Nat):Pt:=p.puts.getD i aL
abbrev Ej (p:Pr) (i:Nat):Rg:=p.regs.getD i cb
abbrev lP (p:Pr) (i:Nat):Mm:=p.mems.getD i ba
def qR (p:Pr) (s:Ps) (hs:List Hd) (i:Nat):Int:=if kR p s (u4 p) (lO p i).when=true∧(hs.getD i aP).has=true then (hs.getD i aP).v else 0
def jg (p:Pr) (s:Ps) (hs:List Hd):List Int:=tab (qR p s hs) p.takes.length
def zz (p:Pr) (s:Ps) (data:List Int) (i:Nat):List Int :=
 if kR p s data (lP p i).enable=true then (s.mems.getD i []).set (Int.tmod (bC p s data (lP p i).addr).1 (lP p i).words).toNat (bC p s data (lP p i).data).1 else s.mems.getD i []
def eE (p:Pr) (s:Ps) (data:List Int):Ps:=⟨tab (fun i=>(bC p s data (Ej p i).next).1) p.regs.length, tab (zz p s data) p.mems.length⟩
def jZ (p:Pr) (s:Ps) (hs:List Hd) (i:Nat):Bool:=(hs.getD i aP).has||!kR p s (jg p s hs) (lO p i).when
def oT (p:Pr) (s:Ps) (hs:List Hd) (rs:List Bool) (i:Nat):Bool:=rs.getD i false||!kR p s (jg p s hs) (sT p i).when
def fp (p:Pr) (s:Ps) (hs:List Hd) (rs:List Bool):Bool:=dF (jZ p s hs) p.takes.length&&dF (oT p s hs rs) p.puts.length
def oU (p:Pr) (s:Ps) (hs:List Hd) (i:Nat):Bool:=kR p s (jg p s hs) (lO p i).when
def oV (p:Pr) (s:Ps) (hs:List Hd) (i:Nat):Hd:=if kR p s (jg p s hs) (sT p i).when=true then ⟨true, (bC p s (jg p s hs) (sT p i).data).1⟩else aP
def ay (p:Pr) (s:Ps) (hs:List Hd) (rs:List Bool):Fi :=
 if fp p s hs rs=true then ⟨true, eE p s (jg p s hs), tab (oU p s hs) p.takes.length, tab (oV p s hs) p.puts.length⟩
 else ⟨false, s, List.replicate p.takes.length false, List.replicate p.puts.length aP⟩
def aI (p:Pr):Ps:=⟨p.regs.map (·.init), p.mems.map (fun m=>List.replicate m.words.toNat 0)⟩
def dQ (v w:Int):Bool:=decide (0≤v)&&decide (v≤ap w)
theorem zA {v w:Int}:dQ v w=true↔dt v w:=by simp[dQ, dt]
def iR (p:Pr) (s:Ps) (i:Nat):Bool:=decide (((s.mems.getD i []).length:Int)=(lP p i).words)&&dF (fun j=>dQ ((s.mems.getD i []).getD j 0) (lP p i).w) (s.mems.getD i []).length
def b9 (p:Pr) (s:Ps):Bool:=decide (s.regs.length=p.regs.length)&&decide (s.mems.length=p.mems.length)&&dF (fun i=>dQ (s.regs.getD i 0) (Ej p i).w) s.regs.length&&dF (iR p s) s.mems.length
def qS (p:Pr):Sc:=⟨p.regs.map (·.w), p.mems.map (·.w), p.takes.map (·.w)⟩
def Ox (p:Pr):Sc:=⟨p.regs.map (·.w), p.mems.map (·.w), []⟩
structure fq (p:Pr):Prop where
 rl:p.regs.length≤100
 ml:p.mems.length≤100
 tl:p.takes.length≤100
 pl:p.puts.length≤100
 rw:∀i, i<p.regs.length→ax (Ej p i).w=true∧dt (Ej p i).init (Ej p i).w∧e9 (qS p) (Ej p i).next=some (Ej p i).w∧fS (Ej p i).next≤3
 mw:∀i, i<p.mems.length→ax (lP p i).w=true∧(1≤(lP p i).words∧(lP p i).words≤4)∧(e9 (qS p) (lP p i).enable=some 1∧fS (lP p i).enable≤3)∧((∃v, e9 (qS p) (lP p i).addr=some v)∧fS (lP p i).addr≤3)∧e9 (qS p) (lP p i).data=some (lP p i).w∧fS (lP p i).data≤3
 tw:∀i, i<p.takes.length→ax (lO p i).w=true∧e9 (Ox p) (lO p i).when=some 1∧fS (lO p i).when≤3
 pw:∀i, i<p.puts.length→ax (sT p i).w=true∧(e9 (qS p) (sT p i).when=some 1∧fS (sT p i).when≤3)∧e9 (qS p) (sT p i).data=some (sT p i).w∧fS (sT p i).data≤3
structure pU (p:Pr) (s:Ps):Prop where
 rl:s.regs.length=p.regs.length
 rv:∀i, i<p.regs.length→dt (s.regs.getD i 0) (Ej p i).w
 ml:s.mems.length=p.mems.length
 mn:∀i, i<p.mems.length→((s.mems.getD i []).length:Int)=(lP p i).words
 mv:∀i, i<p.mems.length→∀j, j<(s.mems.getD i []).length→dt ((s.mems.getD i []).getD j 0) (lP p i).w
structure A9 (p:Pr) (d:List Int):Prop where
 l:d.length=p.takes.length
 v:∀i, i<p.takes.length→dt (d.getD i 0) (lO p i).w
structure Ba (p:Pr) (hs:List Hd):Prop where
 l:hs.length=p.takes.length
 v:∀i, i<p.takes.length→(hs.getD i aP).has=true→dt (hs.getD i aP).v (lO p i).w
theorem wJ {p:Pr} {s:Ps}:b9 p s=true↔pU p s:=by
 unfold b9 iR
 simp only[Bool.and_eq_true, decide_eq_true_eq, cf, zA]
 constructor
 ·rintro⟨⟨⟨h1, h2⟩, h3⟩, h4⟩
  exact⟨h1, fun i hi=>h3 i (by omega), h2, fun i hi=>(h4 i (by omega)).1, fun i hi=>(h4 i (by omega)).2⟩
 ·intro h
  exact⟨⟨⟨h.rl, h.ml⟩, fun i hi=>h.rv i (by have:=h.rl;omega)⟩, fun i hi=>⟨h.mn i (by have:=h.ml;omega), h.mv i (by have:=h.ml;omega)⟩⟩
set_option maxHeartbeats 1600000 in
theorem mC {p:Pr} {s:Ps} {d:List Int} (hp:fq p) (hs:pU p s) (hd:A9 p d):xT (qS p) p s d where
 prl:=by simp[qS]
 prw:=fun i hi=>by
  have hi':i<p.regs.length:=by simpa[qS]using hi
  show(p.regs.getD i cb).w=(p.regs.map (·.w)).getD i 0
  rw[c6 (·.w) p.regs i cb 0 hi']
 pml:=by simp[qS]
 pmw:=fun i hi=>by
  have hi':i<p.mems.length:=by simpa[qS]using hi
  show(p.mems.getD i ba).w=(p.mems.map (·.w)).getD i 0
  rw[c6 (·.w) p.mems i ba 0 hi']
 ptl:=by simp[qS]
 ptw:=fun i hi=>by
  have hi':i<p.takes.length:=by simpa[qS]using hi
  show(p.takes.getD i aK).w=(p.takes.map (·.w)).getD i 0
  rw[c6 (·.w) p.takes i aK 0 hi']
 srl:=(hs.rl).trans (by simp[qS])
 srv:=fun i hi=>by
  have hi':i<p.regs.length:=by simpa[qS]using hi
  show dt _ ((p.regs.map (·.w)).getD i 0)
  rw[c6 (·.w) p.regs i cb 0 hi']
  exact hs.rv i hi'
 sml:=(hs.ml).trans (by simp[qS])
 smn:=fun i hi=>by
  have hi':i<p.mems.length:=by simpa[qS]using hi
  have:=hs.mn i hi'
  have:=(hp.mw i hi').2.1
  omega
 smv:=fun i hi j hj=>by
  have hi':i<p.mems.length:=by simpa[qS]using hi
  show dt _ ((p.mems.map (·.w)).getD i 0)
  rw[c6 (·.w) p.mems i ba 0 hi']
  exact hs.mv i hi' j hj
 dl:=(hd.l).trans (by simp[qS])
 dv:=fun i hi=>by
  have hi':i<p.takes.length:=by simpa[qS]using hi
  show dt _ ((p.takes.map (·.w)).getD i 0)
  rw[c6 (·.w) p.takes i aK 0 hi']
  exact hd.v i hi'
 rok:=fun i hi=>by
  have hi':i<p.regs.length:=by simpa[qS]using hi
  show ax ((p.regs.map (·.w)).getD i 0)=true
  rw[c6 (·.w) p.regs i cb 0 hi']
  exact(hp.rw i hi').1
 mok:=fun i hi=>by
  have hi':i<p.mems.length:=by simpa[qS]using hi
  show ax ((p.mems.map (·.w)).getD i 0)=true
  rw[c6 (·.w) p.mems i ba 0 hi']
  exact(hp.mw i hi').1
 tok:=fun i hi=>by
  have hi':i<p.takes.length:=by simpa[qS]using hi
  show ax ((p.takes.map (·.w)).getD i 0)=true
  rw[c6 (·.w) p.takes i aK 0 hi']
  exact(hp.tw i hi').1
theorem It {c:Sc} {p:Pr} {s:Ps} (d d':List Int):∀(n:Nat) (e:Ex) (w:Int), fS e≤n→e9 ⟨c.rw, c.mw, []⟩ e=some w→e9 c e=some w∧bC p s d e=bC p s d' e:=by
 intro n
 induction n with
 | zero=>intro e w hd;cases e with | mk op name k w args=>rw[fS]at hd;omega
 | succ n ih =>
  intro e w hd hty
  obtain⟨ws, hws, hc⟩:=iO hty
  obtain⟨hl, hget⟩:=nG hws
  have hargs:∀i, i<e.args.length→e9 c (e.args.getD i dE)=some (ws.getD i 0)∧bC p s d (e.args.getD i dE)=bC p s d' (e.args.getD i dE):=fun i hi=>ih _ _ (by have:=CL hi;omega) (hget i hi)
  have hL:∀(l:List Ex) (ws:List Int), ws.length=l.length→(∀i, i<l.length→e9 c (l.getD i dE)=some (ws.getD i 0))→e9.tyL c l=some ws:=by
   intro l
   induction l with
   | nil=>intro ws h _;cases ws with | nil=>rfl | cons a r=>cases h
   | cons a r ihr =>
    intro ws h hh
    cases ws with
    | nil=>cases h
    | cons w0 wr =>
     have h0:e9 c a=some w0:=hh 0 (by simp)
     have h1:=ihr wr (by simpa using h) (fun i hi=>hh (i+1) (by simpa using hi))
     rw[e9.tyL, h0, h1]
  have hmap:e.args.map (bC p s d)=e.args.map (bC p s d'):=by
   apply List.map_congr_left
   intro a ha
   obtain⟨i, hi, rfl⟩:=List.mem_iff_getElem.1 ha
   have:=(hargs i hi).2
   simpa[List.getD, List.getElem?_eq_getElem hi]using this
  have hws':=hL e.args ws hl (fun i hi=>(hargs i hi).1)
  refine⟨?_, ?_⟩
  ·cases e with
   | mk op name k w0 args =>
    rw[e9, hws']
    simp only at hc ⊢
    rcases hc with ⟨h1, h2, h3, h4, rfl⟩ | ⟨h1, h2, h3, h4, rfl⟩ | ⟨h1, h2, h3, h4, rfl⟩ | ⟨h1, h2, h2', h3, rfl⟩
    ·rw[if_pos h1, if_pos ⟨h2, h3, h4⟩]
    ·exact absurd h4 (by simp;omega)
    ·rw[if_neg (by omega), if_neg (by omega), if_pos h1, if_pos ⟨h2, h3, h4⟩]
    ·rw[if_neg h1, if_neg h2', if_neg h2, if_pos h3]
  ·rw[pT, pT p s d', hmap]
   have h18:e.op≠18:=by
    rcases hc with ⟨h1, h2, h3, h4, rfl⟩ | ⟨h1, h2, h3, h4, rfl⟩ | ⟨h1, h2, h3, h4, rfl⟩ | ⟨h1, h2, h2', h3, rfl⟩
    ·omega
    ·exact absurd h4 (by simp;omega)
    ·omega
    ·exact h2'
   rw[if_neg h18, if_neg h18]
theorem ir {p:Pr} {s:Ps} (hp:fq p) {i:Nat} (hi:i<p.takes.length) (d d':List Int):kR p s d (lO p i).when=kR p s d' (lO p i).when∧e9 (qS p) (lO p i).when=some 1:=by
 obtain⟨h1, h2, h3⟩:=hp.tw i hi
 have h:=It (c:=qS p) (p:=p) (s:=s) d d' 3 _ 1 h3 h2
 exact⟨by unfold kR;rw[h.2], h.1⟩
theorem pV {w:Int} (h:ax w=true):dt 0 w:=by
 have:=bf.1 h
 exact⟨by omega, (az (by omega) (by omega)).1⟩
theorem Mc {p:Pr} (hp:fq p):A9 p (u4 p) where
 l:=by simp[u4]
 v:=fun i hi=>by
  have e:(u4 p).getD i 0=0:=by simp[u4, List.getD, List.getElem?_replicate];split<;>rfl
  rw[e];exact pV (hp.tw i hi).1
theorem Bb {p:Pr} {s:Ps} {hs:List Hd} (hp:fq p) (hh:Ba p hs):A9 p (jg p s hs) where
 l:=by rw[jg, ao]
 v:=fun i hi=>by
  rw[jg, aE hi, qR]
  split
  ·rename_i h;exact hh.v i hi h.2
  ·exact pV (hp.tw i hi).1
theorem pW (p:Pr) (s:Ps) (hs:List Hd) (rs:List Bool):(ay p s hs rs).fires=fp p s hs rs:=by
 unfold ay;split<;>simp_all
theorem gu (p:Pr) (s:Ps) (hs:List Hd) (rs:List Bool):(ay p s hs rs).pops.length=p.takes.length:=by
 unfold ay;split<;>simp[ao]
theorem eF (p:Pr) (s:Ps) (hs:List Hd) (rs:List Bool):(ay p s hs rs).puts.length=p.puts.length:=by
 unfold ay;split<;>simp[ao]
theorem xW {p:Pr} {s:Ps} {d:List Int} {e:Ex} {w:Int} (ho:xT (qS p) p s d) (h:e9 (qS p) e=some w) (hd:fS e≤3):(bC p s d e).2=w∧dt (bC p s d e).1 w∧ax w=true:=Jq ho 3 e w hd h
theorem Iu {p:Pr} {s:Ps} {d:List Int} (hp:fq p) (hs:pU p s) (hd:A9 p d):pU p (eE p s d) where
 rl:=by rw[eE];simp[ao]
 rv:=fun i hi=>by
  rw[eE];simp only;rw[aE hi]
  have h:=hp.rw i hi
  exact(xW (mC hp hs hd) h.2.2.1 h.2.2.2).2.1
 ml:=by rw[eE];simp[ao]
 mn:=fun i hi=>by
  rw[eE];simp only;rw[aE hi, zz]
  split
  ·rw[List.length_set];exact hs.mn i hi
  ·exact hs.mn i hi
 mv:=fun i hi j hj=>by
  rw[eE]at hj ⊢;simp only at hj ⊢;rw[aE hi, zz]at hj ⊢
  have h:=hp.mw i hi
  split at hj
  ·rename_i he
   rw[if_pos he]
   rw[List.length_set]at hj
   by_cases hm:(Int.tmod (bC p s d (lP p i).addr).1 (lP p i).words).toNat<(s.mems.getD i []).length
   ·rw[c8 hm]
    split
    ·exact(xW (mC hp hs hd) h.2.2.2.2.1 h.2.2.2.2.2).2.1
    ·exact hs.mv i hi j hj
   ·rw[List.set_eq_of_length_le (by omega)]
    exact hs.mv i hi j hj
  ·rename_i he
   rw[if_neg he]
   exact hs.mv i hi j hj
theorem jH {p:Pr} {s:Ps} {hs:List Hd} {rs:List Bool} (hp:fq p) (hso:pU p s) (hh:Ba p hs):pU p (ay p s hs rs).s:=by
 unfold ay
 split
 ·exact Iu hp hso (Bb hp hh)
 ·exact hso
theorem qT {p:Pr} {s:Ps} {hs:List Hd} {rs:List Bool} (hp:fq p) (hso:pU p s) (hh:Ba p hs) {i:Nat} (hi:i<p.puts.length) (hhas:((ay p s hs rs).puts.getD i aP).has=true):dt ((ay p s hs rs).puts.getD i aP).v (sT p i).w:=by
 unfold ay at hhas ⊢
 split
 ·rename_i hf
  rw[if_pos hf]at hhas
  simp only at hhas ⊢
  rw[aE hi]at hhas ⊢
  unfold oV at hhas ⊢
  split
  ·have h:=hp.pw i hi
   exact(xW (mC hp hso (Bb hp hh)) h.2.2.1 h.2.2.2).2.1
  ·rename_i hn;rw[if_neg hn]at hhas;cases hhas
 ·rename_i hf
  rw[if_neg hf]at hhas
  simp[List.getD, List.getElem?_replicate, hi]at hhas
end Go.Proofs.YtckgpflobhpnpaaGreat
